/- The walk of the law WideRing. -/
import Derived.Test.YtejapkdhbpngbaaDoorW19
import Derived.Test.YtejapkdhbpngbaaDoorW52
import Derived.Test.YtejapkdhbpngbaaDoorMathL
namespace Go.Proofs.YtejapkdhbpngbaaDoor
open Go.RowKit
attribute [local go_sem ↓] Go.wp_at_zero Go.wp_at_succ
theorem mul_lt {a b i j : Nat} (ha : a < 4294967296 ^ i) (hb : b < 4294967296 ^ j) : a * b < 4294967296 ^ (i + j) := by
  rw [Nat.pow_add]
  exact Nat.mul_lt_mul'' ha hb

theorem ring_facts {na nb nc : Bool} {la lb lc : List Nat} (h1 : Lim la) (h2 : Lim lb) (h3 : Lim lc) (hlong : longB 100 na la nb lb nc lc = false) :
    ∃ s p x y q : Bool × List Nat, addS na la nb lb = (s, 0) ∧ addS nb lb na la = (s, 0) ∧ subS s.1 s.2 nb lb = ((na, la), 0) ∧ mulS s.1 s.2 nc lc = (p, 0) ∧ mulS na la nc lc = (x, 0) ∧ mulS nc lc nb lb = (y, 0) ∧ addS x.1 x.2 y.1 y.2 = (p, 0) ∧ subS na la na la = (q, 0) ∧ chk p.1 p.2 = 0 ∧ q.1 = false ∧ q.2.length = 0 := by
  obtain ⟨g1, g2, g3, s1, s2, s3⟩ := long_facts hlong
  have v1 := vz_of h1 g1
  have v2 := vz_of h2 g2
  have v3 := vz_of h3 g3
  generalize zv na la = a at *
  generalize zv nb lb = b at *
  generalize zv nc lc = c at *
  obtain ⟨k, hk⟩ : ∃ k, k = 100 := ⟨_, rfl⟩
  have t1 := v1.lt_of (k := k) (by omega)
  have t2 := v2.lt_of (k := k) (by omega)
  have t3 := v3.lt_of (k := k) (by omega)
  have ts := lt_sum t1 t2
  have fs : fitZ (a + b) := fit_of_lt (k := k + 1) (by omega) (by omega)
  have fp : fitZ ((a + b) * c) := fit_of_lt (k := k + 1 + k) (by rw [Int.natAbs_mul]; exact mul_lt (by omega) t3) (by omega)
  have fx : fitZ (a * c) := fit_of_lt (k := k + k) (by rw [Int.natAbs_mul]; exact mul_lt t1 t3) (by omega)
  have fy : fitZ (c * b) := fit_of_lt (k := k + k) (by rw [Int.natAbs_mul]; exact mul_lt t3 t2) (by omega)
  have e1 : a * c + c * b = (a + b) * c := by rw [Int.add_mul, Int.mul_comm c b]
  have e0 : subS na la na la = (wOf 0, 0) := by
    have := subS_z v1 v1 (by rw [Int.sub_self]; exact fit_mono (b := 1) (by simp) fit_one)
    rwa [Int.sub_self] at this
  refine ⟨wOf (a + b), wOf ((a + b) * c), wOf (a * c), wOf (c * b), wOf 0, addS_z v1 v2 fs, ?_, ?_, mulS_z (vz_wOf fs) v3 fp, mulS_z v1 v3 fx, mulS_z v3 v2 fy, ?_, e0, (vz_wOf fp).chk, rfl, rfl⟩
  · have := addS_z v2 v1 (by rw [Int.add_comm]; exact fs)
    rwa [Int.add_comm] at this
  · have := subS_z (vz_wOf fs) v2 (by rw [Int.add_sub_cancel]; exact v1.2)
    rw [this, Int.add_sub_cancel, v1.1]
  · rw [addS_z (vz_wOf fx) (vz_wOf fy) (by rw [e1]; exact fp), e1]

set_option maxRecDepth 100000 in
set_option maxHeartbeats 4000000 in
theorem wideRing_walk (na nb nc : Bool) (Aa Ab Ac : Option Addr) (la lb lc : List Nat) (ca cb cc : Nat) (w : World) (hsa : Sl w Aa la ca) (hsb : Sl w Ab lb cb) (hsc : Sl w Ac lc cc) :
    Calls Tryd.prog 5 #[.agg #[.bool na, .slice Aa la.length ca], .agg #[.bool nb, .slice Ab lb.length cb], .agg #[.bool nc, .slice Ac lc.length cc]] w fun e w' => e = .returned (.bool true) ∧ Below w.heap.size w w' := by
  have Sa := Lib.hid hsa
  have Sb := Lib.hid hsb
  have Sc := Lib.hid hsc
  have B : Hid (Below w.heap.size w w) := Below.refl _ _
  cases hlong : longB 100 na la nb lb nc lc with
  | true =>
    have Hlong := Lib.hid hlong
    clear hsa hsb hsc hlong
    go_enter Tryd.func5, Tryd.ntmps5
    go_wp2_with fail
    refine (alive_any _).mono ?_
    rintro e w1 ⟨rfl, hb⟩
    have Ka : Hid (Cw w1 w.heap.size na Aa la.length ca) := Cw.keep (Cw.keep (Cw.keep (Cw.fresh (by simp) _ _ _ _ _) (blw1 _ _)) (blw1 _ _)) hb
    have Kb : Hid (Cw w1 (w.heap.size + 1) nb Ab lb.length cb) := Cw.keep (Cw.keep (Cw.fresh (by simp) _ _ _ _ _) (blw1 _ _)) hb
    have Kc : Hid (Cw w1 (w.heap.size + 1 + 1) nc Ac lc.length cc) := Cw.keep (Cw.fresh (by simp) _ _ _ _ _) hb
    replace Sa : Hid (Sl w1 Aa la ca) := Sl.below (((Sa.out.alloc _).alloc _).alloc _) hb
    replace Sb : Hid (Sl w1 Ab lb cb) := Sl.below (((Sb.out.alloc _).alloc _).alloc _) hb
    replace Sc : Hid (Sl w1 Ac lc cc) := Sl.below (((Sc.out.alloc _).alloc _).alloc _) hb
    replace B : Hid (Below w.heap.size w w1) := below_mono (below_mono (below_mono (below_mono B.out (blw1 _ _)) (blw1 _ _)) (blw1 _ _)) hb
    clear hb
    obtain ⟨qa0, qa1⟩ := Ka.out
    obtain ⟨qb0, qb1⟩ := Kb.out
    obtain ⟨qc0, qc1⟩ := Kc.out
    have hza : w.heap.size < w1.heap.size := lt_of_cell (a := ⟨w.heap.size, 0, none⟩) Ka.out.1
    have hzb : w.heap.size + 1 < w1.heap.size := lt_of_cell (a := ⟨w.heap.size + 1, 0, none⟩) Kb.out.1
    have hzc : w.heap.size + 1 + 1 < w1.heap.size := lt_of_cell (a := ⟨w.heap.size + 1 + 1, 0, none⟩) Kc.out.1
    go_wp2_with fail
    refine (long_any 100 _ _ _ _ _ _ _ _ _ _ _ _ _ Sa.out Sb.out Sc.out).mono ?_
    rw [Hlong.out]
    rintro e w2 ⟨rfl, hb⟩
    clear qa0 qa1 qb0 qb1 qc0 qc1
    replace Ka : Hid (Cw w2 w.heap.size na Aa la.length ca) := Cw.keep Ka.out hb
    replace Kb : Hid (Cw w2 (w.heap.size + 1) nb Ab lb.length cb) := Cw.keep Kb.out hb
    replace Kc : Hid (Cw w2 (w.heap.size + 1 + 1) nc Ac lc.length cc) := Cw.keep Kc.out hb
    replace Sa : Hid (Sl w2 Aa la ca) := Sl.below Sa.out hb
    replace Sb : Hid (Sl w2 Ab lb cb) := Sl.below Sb.out hb
    replace Sc : Hid (Sl w2 Ac lc cc) := Sl.below Sc.out hb
    replace B : Hid (Below w.heap.size w w2) := below_mono B.out hb
    clear hb
    obtain ⟨qa0, qa1⟩ := Ka.out
    obtain ⟨qb0, qb1⟩ := Kb.out
    replace hza : w.heap.size < w2.heap.size := lt_of_cell (a := ⟨w.heap.size, 0, none⟩) Ka.out.1
    replace hzb : w.heap.size + 1 < w2.heap.size := lt_of_cell (a := ⟨w.heap.size + 1, 0, none⟩) Kb.out.1
    replace hzc : w.heap.size + 1 + 1 < w2.heap.size := lt_of_cell (a := ⟨w.heap.size + 1 + 1, 0, none⟩) Kc.out.1
    go_wp2
    go_ret
    exact ⟨rfl, B.out⟩
  | false =>
    obtain ⟨⟨ns, ls⟩, ⟨np, lp⟩, ⟨nx, lx⟩, ⟨ny, ly⟩, ⟨nq, lq⟩, h1, h2, h3, h4, h5, h6, h7, h8, hC, hnq, hlq⟩ := ring_facts hsa.lim hsb.lim hsc.lim hlong
    have HSs : Hid (sameB ns ls ns ls = true) := sameB_self _ _
    have HSa : Hid (sameB na la na la = true) := sameB_self _ _
    have HSp : Hid (sameB np lp np lp = true) := sameB_self _ _
    have Hlong := Lib.hid hlong
    have H1 := Lib.hid h1
    have H2 := Lib.hid h2
    have H3 := Lib.hid h3
    have H4 := Lib.hid h4
    have H5 := Lib.hid h5
    have H6 := Lib.hid h6
    have H7 := Lib.hid h7
    have H8 := Lib.hid h8
    have HC := Lib.hid hC
    have Hnq := Lib.hid hnq
    have Hlq := Lib.hid hlq
    clear hsa hsb hsc hlong h1 h2 h3 h4 h5 h6 h7 h8 hC hnq hlq
    dsimp only at H1 H2 H3 H4 H5 H6 H7 H8 HC Hnq Hlq
    go_enter Tryd.func5, Tryd.ntmps5
    go_wp2_with fail
    refine (alive_any _).mono ?_
    rintro e w1 ⟨rfl, hb⟩
    have Ka : Hid (Cw w1 w.heap.size na Aa la.length ca) := Cw.keep (Cw.keep (Cw.keep (Cw.fresh (by simp) _ _ _ _ _) (blw1 _ _)) (blw1 _ _)) hb
    have Kb : Hid (Cw w1 (w.heap.size + 1) nb Ab lb.length cb) := Cw.keep (Cw.keep (Cw.fresh (by simp) _ _ _ _ _) (blw1 _ _)) hb
    have Kc : Hid (Cw w1 (w.heap.size + 1 + 1) nc Ac lc.length cc) := Cw.keep (Cw.fresh (by simp) _ _ _ _ _) hb
    replace Sa : Hid (Sl w1 Aa la ca) := Sl.below (((Sa.out.alloc _).alloc _).alloc _) hb
    replace Sb : Hid (Sl w1 Ab lb cb) := Sl.below (((Sb.out.alloc _).alloc _).alloc _) hb
    replace Sc : Hid (Sl w1 Ac lc cc) := Sl.below (((Sc.out.alloc _).alloc _).alloc _) hb
    replace B : Hid (Below w.heap.size w w1) := below_mono (below_mono (below_mono (below_mono B.out (blw1 _ _)) (blw1 _ _)) (blw1 _ _)) hb
    clear hb
    obtain ⟨qa0, qa1⟩ := Ka.out
    obtain ⟨qb0, qb1⟩ := Kb.out
    obtain ⟨qc0, qc1⟩ := Kc.out
    have hza : w.heap.size < w1.heap.size := lt_of_cell (a := ⟨w.heap.size, 0, none⟩) Ka.out.1
    have hzb : w.heap.size + 1 < w1.heap.size := lt_of_cell (a := ⟨w.heap.size + 1, 0, none⟩) Kb.out.1
    have hzc : w.heap.size + 1 + 1 < w1.heap.size := lt_of_cell (a := ⟨w.heap.size + 1 + 1, 0, none⟩) Kc.out.1
    go_wp2_with fail
    refine (long_any 100 _ _ _ _ _ _ _ _ _ _ _ _ _ Sa.out Sb.out Sc.out).mono ?_
    rw [Hlong.out]
    rintro e w2 ⟨rfl, hb⟩
    clear qa0 qa1 qb0 qb1 qc0 qc1
    replace Ka : Hid (Cw w2 w.heap.size na Aa la.length ca) := Cw.keep Ka.out hb
    replace Kb : Hid (Cw w2 (w.heap.size + 1) nb Ab lb.length cb) := Cw.keep Kb.out hb
    replace Kc : Hid (Cw w2 (w.heap.size + 1 + 1) nc Ac lc.length cc) := Cw.keep Kc.out hb
    replace Sa : Hid (Sl w2 Aa la ca) := Sl.below Sa.out hb
    replace Sb : Hid (Sl w2 Ab lb cb) := Sl.below Sb.out hb
    replace Sc : Hid (Sl w2 Ac lc cc) := Sl.below Sc.out hb
    replace B : Hid (Below w.heap.size w w2) := below_mono B.out hb
    clear hb
    obtain ⟨qa0, qa1⟩ := Ka.out
    obtain ⟨qb0, qb1⟩ := Kb.out
    replace hza : w.heap.size < w2.heap.size := lt_of_cell (a := ⟨w.heap.size, 0, none⟩) Ka.out.1
    replace hzb : w.heap.size + 1 < w2.heap.size := lt_of_cell (a := ⟨w.heap.size + 1, 0, none⟩) Kb.out.1
    replace hzc : w.heap.size + 1 + 1 < w2.heap.size := lt_of_cell (a := ⟨w.heap.size + 1 + 1, 0, none⟩) Kc.out.1
    go_wp2_with fail
    refine (wadd_any _ _ _ _ _ _ _ _ _ Sa.out Sb.out).mono ?_
    rw [H1.out]
    rintro e w3 ⟨A3, c3, rfl, hs3, hb⟩
    clear qa0 qa1 qb0 qb1
    replace Ka : Hid (Cw w3 w.heap.size na Aa la.length ca) := Cw.keep Ka.out hb
    replace Kb : Hid (Cw w3 (w.heap.size + 1) nb Ab lb.length cb) := Cw.keep Kb.out hb
    replace Kc : Hid (Cw w3 (w.heap.size + 1 + 1) nc Ac lc.length cc) := Cw.keep Kc.out hb
    replace Sa : Hid (Sl w3 Aa la ca) := Sl.below Sa.out hb
    replace Sb : Hid (Sl w3 Ab lb cb) := Sl.below Sb.out hb
    replace Sc : Hid (Sl w3 Ac lc cc) := Sl.below Sc.out hb
    replace B : Hid (Below w.heap.size w w3) := below_mono B.out hb
    clear hb
    have Ss : Hid (Sl w3 A3 ls c3) := hs3
    clear hs3
    (try dsimp only)
    replace hza : w.heap.size < w3.heap.size := lt_of_cell (a := ⟨w.heap.size, 0, none⟩) Ka.out.1
    replace hzb : w.heap.size + 1 < w3.heap.size := lt_of_cell (a := ⟨w.heap.size + 1, 0, none⟩) Kb.out.1
    replace hzc : w.heap.size + 1 + 1 < w3.heap.size := lt_of_cell (a := ⟨w.heap.size + 1 + 1, 0, none⟩) Kc.out.1
    obtain ⟨qb0, qb1⟩ := Kb.out
    obtain ⟨qa0, qa1⟩ := Ka.out
    go_wp2_with fail
    refine (wadd_any _ _ _ _ _ _ _ _ _ (Sb.out.alloc _) (Sa.out.alloc _)).mono ?_
    rw [H2.out]
    rintro e w4 ⟨A4, c4, rfl, hs4, hb⟩
    clear qb0 qb1 qa0 qa1
    replace Ka : Hid (Cw w4 w.heap.size na Aa la.length ca) := Cw.keep (Cw.keep Ka.out (blw1 _ _)) hb
    replace Kb : Hid (Cw w4 (w.heap.size + 1) nb Ab lb.length cb) := Cw.keep (Cw.keep Kb.out (blw1 _ _)) hb
    replace Kc : Hid (Cw w4 (w.heap.size + 1 + 1) nc Ac lc.length cc) := Cw.keep (Cw.keep Kc.out (blw1 _ _)) hb
    have Ks : Hid (Cw w4 w3.heap.size ns A3 ls.length c3) := Cw.keep (Cw.fresh (by simp) _ _ _ _ _) hb
    replace Sa : Hid (Sl w4 Aa la ca) := Sl.below (Sa.out.alloc _) hb
    replace Sb : Hid (Sl w4 Ab lb cb) := Sl.below (Sb.out.alloc _) hb
    replace Sc : Hid (Sl w4 Ac lc cc) := Sl.below (Sc.out.alloc _) hb
    replace Ss : Hid (Sl w4 A3 ls c3) := Sl.below (Ss.out.alloc _) hb
    replace B : Hid (Below w.heap.size w w4) := below_mono (below_mono B.out (blw1 _ _)) hb
    clear hb
    have St : Hid (Sl w4 A4 ls c4) := hs4
    clear hs4
    (try dsimp only)
    replace hza : w.heap.size < w4.heap.size := lt_of_cell (a := ⟨w.heap.size, 0, none⟩) Ka.out.1
    replace hzb : w.heap.size + 1 < w4.heap.size := lt_of_cell (a := ⟨w.heap.size + 1, 0, none⟩) Kb.out.1
    replace hzc : w.heap.size + 1 + 1 < w4.heap.size := lt_of_cell (a := ⟨w.heap.size + 1 + 1, 0, none⟩) Kc.out.1
    have hzs : w3.heap.size < w4.heap.size := lt_of_cell (a := ⟨w3.heap.size, 0, none⟩) Ks.out.1
    obtain ⟨qs0, qs1⟩ := Ks.out
    obtain ⟨qb0, qb1⟩ := Kb.out
    go_wp2_with fail
    refine (wsub_any _ _ _ _ _ _ _ _ _ (Ss.out.alloc _) (Sb.out.alloc _)).mono ?_
    rw [H3.out]
    rintro e w5 ⟨A5, c5, rfl, hs5, hb⟩
    clear qs0 qs1 qb0 qb1
    replace Ka : Hid (Cw w5 w.heap.size na Aa la.length ca) := Cw.keep (Cw.keep Ka.out (blw1 _ _)) hb
    replace Kb : Hid (Cw w5 (w.heap.size + 1) nb Ab lb.length cb) := Cw.keep (Cw.keep Kb.out (blw1 _ _)) hb
    replace Kc : Hid (Cw w5 (w.heap.size + 1 + 1) nc Ac lc.length cc) := Cw.keep (Cw.keep Kc.out (blw1 _ _)) hb
    replace Ks : Hid (Cw w5 w3.heap.size ns A3 ls.length c3) := Cw.keep (Cw.keep Ks.out (blw1 _ _)) hb
    have Kt : Hid (Cw w5 w4.heap.size ns A4 ls.length c4) := Cw.keep (Cw.fresh (by simp) _ _ _ _ _) hb
    replace Sa : Hid (Sl w5 Aa la ca) := Sl.below (Sa.out.alloc _) hb
    replace Sb : Hid (Sl w5 Ab lb cb) := Sl.below (Sb.out.alloc _) hb
    replace Sc : Hid (Sl w5 Ac lc cc) := Sl.below (Sc.out.alloc _) hb
    replace Ss : Hid (Sl w5 A3 ls c3) := Sl.below (Ss.out.alloc _) hb
    replace St : Hid (Sl w5 A4 ls c4) := Sl.below (St.out.alloc _) hb
    replace B : Hid (Below w.heap.size w w5) := below_mono (below_mono B.out (blw1 _ _)) hb
    clear hb
    have Sd : Hid (Sl w5 A5 la c5) := hs5
    clear hs5
    (try dsimp only)
    replace hza : w.heap.size < w5.heap.size := lt_of_cell (a := ⟨w.heap.size, 0, none⟩) Ka.out.1
    replace hzb : w.heap.size + 1 < w5.heap.size := lt_of_cell (a := ⟨w.heap.size + 1, 0, none⟩) Kb.out.1
    replace hzc : w.heap.size + 1 + 1 < w5.heap.size := lt_of_cell (a := ⟨w.heap.size + 1 + 1, 0, none⟩) Kc.out.1
    replace hzs : w3.heap.size < w5.heap.size := lt_of_cell (a := ⟨w3.heap.size, 0, none⟩) Ks.out.1
    have hzt : w4.heap.size < w5.heap.size := lt_of_cell (a := ⟨w4.heap.size, 0, none⟩) Kt.out.1
    obtain ⟨qs0, qs1⟩ := Ks.out
    obtain ⟨qc0, qc1⟩ := Kc.out
    go_wp2_with fail
    refine (wmul_any _ _ _ _ _ _ _ _ _ (Ss.out.alloc _) (Sc.out.alloc _)).mono ?_
    rw [H4.out]
    rintro e w6 ⟨A6, c6, rfl, hs6, hb⟩
    clear qs0 qs1 qc0 qc1
    replace Ka : Hid (Cw w6 w.heap.size na Aa la.length ca) := Cw.keep (Cw.keep Ka.out (blw1 _ _)) hb
    replace Kb : Hid (Cw w6 (w.heap.size + 1) nb Ab lb.length cb) := Cw.keep (Cw.keep Kb.out (blw1 _ _)) hb
    replace Kc : Hid (Cw w6 (w.heap.size + 1 + 1) nc Ac lc.length cc) := Cw.keep (Cw.keep Kc.out (blw1 _ _)) hb
    replace Ks : Hid (Cw w6 w3.heap.size ns A3 ls.length c3) := Cw.keep (Cw.keep Ks.out (blw1 _ _)) hb
    replace Kt : Hid (Cw w6 w4.heap.size ns A4 ls.length c4) := Cw.keep (Cw.keep Kt.out (blw1 _ _)) hb
    have Kd : Hid (Cw w6 w5.heap.size na A5 la.length c5) := Cw.keep (Cw.fresh (by simp) _ _ _ _ _) hb
    replace Sa : Hid (Sl w6 Aa la ca) := Sl.below (Sa.out.alloc _) hb
    replace Sb : Hid (Sl w6 Ab lb cb) := Sl.below (Sb.out.alloc _) hb
    replace Sc : Hid (Sl w6 Ac lc cc) := Sl.below (Sc.out.alloc _) hb
    replace Ss : Hid (Sl w6 A3 ls c3) := Sl.below (Ss.out.alloc _) hb
    replace St : Hid (Sl w6 A4 ls c4) := Sl.below (St.out.alloc _) hb
    replace Sd : Hid (Sl w6 A5 la c5) := Sl.below (Sd.out.alloc _) hb
    replace B : Hid (Below w.heap.size w w6) := below_mono (below_mono B.out (blw1 _ _)) hb
    clear hb
    have Sp : Hid (Sl w6 A6 lp c6) := hs6
    clear hs6
    (try dsimp only)
    replace hza : w.heap.size < w6.heap.size := lt_of_cell (a := ⟨w.heap.size, 0, none⟩) Ka.out.1
    replace hzb : w.heap.size + 1 < w6.heap.size := lt_of_cell (a := ⟨w.heap.size + 1, 0, none⟩) Kb.out.1
    replace hzc : w.heap.size + 1 + 1 < w6.heap.size := lt_of_cell (a := ⟨w.heap.size + 1 + 1, 0, none⟩) Kc.out.1
    replace hzs : w3.heap.size < w6.heap.size := lt_of_cell (a := ⟨w3.heap.size, 0, none⟩) Ks.out.1
    replace hzt : w4.heap.size < w6.heap.size := lt_of_cell (a := ⟨w4.heap.size, 0, none⟩) Kt.out.1
    have hzd : w5.heap.size < w6.heap.size := lt_of_cell (a := ⟨w5.heap.size, 0, none⟩) Kd.out.1
    obtain ⟨qa0, qa1⟩ := Ka.out
    obtain ⟨qc0, qc1⟩ := Kc.out
    go_wp2_with fail
    refine (wmul_any _ _ _ _ _ _ _ _ _ (Sa.out.alloc _) (Sc.out.alloc _)).mono ?_
    rw [H5.out]
    rintro e w7 ⟨A7, c7, rfl, hs7, hb⟩
    clear qa0 qa1 qc0 qc1
    replace Ka : Hid (Cw w7 w.heap.size na Aa la.length ca) := Cw.keep (Cw.keep Ka.out (blw1 _ _)) hb
    replace Kb : Hid (Cw w7 (w.heap.size + 1) nb Ab lb.length cb) := Cw.keep (Cw.keep Kb.out (blw1 _ _)) hb
    replace Kc : Hid (Cw w7 (w.heap.size + 1 + 1) nc Ac lc.length cc) := Cw.keep (Cw.keep Kc.out (blw1 _ _)) hb
    replace Ks : Hid (Cw w7 w3.heap.size ns A3 ls.length c3) := Cw.keep (Cw.keep Ks.out (blw1 _ _)) hb
    replace Kt : Hid (Cw w7 w4.heap.size ns A4 ls.length c4) := Cw.keep (Cw.keep Kt.out (blw1 _ _)) hb
    replace Kd : Hid (Cw w7 w5.heap.size na A5 la.length c5) := Cw.keep (Cw.keep Kd.out (blw1 _ _)) hb
    have Kp : Hid (Cw w7 w6.heap.size np A6 lp.length c6) := Cw.keep (Cw.fresh (by simp) _ _ _ _ _) hb
    replace Sa : Hid (Sl w7 Aa la ca) := Sl.below (Sa.out.alloc _) hb
    replace Sb : Hid (Sl w7 Ab lb cb) := Sl.below (Sb.out.alloc _) hb
    replace Sc : Hid (Sl w7 Ac lc cc) := Sl.below (Sc.out.alloc _) hb
    replace Ss : Hid (Sl w7 A3 ls c3) := Sl.below (Ss.out.alloc _) hb
    replace St : Hid (Sl w7 A4 ls c4) := Sl.below (St.out.alloc _) hb
    replace Sd : Hid (Sl w7 A5 la c5) := Sl.below (Sd.out.alloc _) hb
    replace Sp : Hid (Sl w7 A6 lp c6) := Sl.below (Sp.out.alloc _) hb
    replace B : Hid (Below w.heap.size w w7) := below_mono (below_mono B.out (blw1 _ _)) hb
    clear hb
    have Sx : Hid (Sl w7 A7 lx c7) := hs7
    clear hs7
    (try dsimp only)
    replace hza : w.heap.size < w7.heap.size := lt_of_cell (a := ⟨w.heap.size, 0, none⟩) Ka.out.1
    replace hzb : w.heap.size + 1 < w7.heap.size := lt_of_cell (a := ⟨w.heap.size + 1, 0, none⟩) Kb.out.1
    replace hzc : w.heap.size + 1 + 1 < w7.heap.size := lt_of_cell (a := ⟨w.heap.size + 1 + 1, 0, none⟩) Kc.out.1
    replace hzs : w3.heap.size < w7.heap.size := lt_of_cell (a := ⟨w3.heap.size, 0, none⟩) Ks.out.1
    replace hzt : w4.heap.size < w7.heap.size := lt_of_cell (a := ⟨w4.heap.size, 0, none⟩) Kt.out.1
    replace hzd : w5.heap.size < w7.heap.size := lt_of_cell (a := ⟨w5.heap.size, 0, none⟩) Kd.out.1
    have hzp : w6.heap.size < w7.heap.size := lt_of_cell (a := ⟨w6.heap.size, 0, none⟩) Kp.out.1
    obtain ⟨qc0, qc1⟩ := Kc.out
    obtain ⟨qb0, qb1⟩ := Kb.out
    go_wp2_with fail
    refine (wmul_any _ _ _ _ _ _ _ _ _ (Sc.out.alloc _) (Sb.out.alloc _)).mono ?_
    rw [H6.out]
    rintro e w8 ⟨A8, c8, rfl, hs8, hb⟩
    clear qc0 qc1 qb0 qb1
    replace Ka : Hid (Cw w8 w.heap.size na Aa la.length ca) := Cw.keep (Cw.keep Ka.out (blw1 _ _)) hb
    replace Kb : Hid (Cw w8 (w.heap.size + 1) nb Ab lb.length cb) := Cw.keep (Cw.keep Kb.out (blw1 _ _)) hb
    replace Kc : Hid (Cw w8 (w.heap.size + 1 + 1) nc Ac lc.length cc) := Cw.keep (Cw.keep Kc.out (blw1 _ _)) hb
    replace Ks : Hid (Cw w8 w3.heap.size ns A3 ls.length c3) := Cw.keep (Cw.keep Ks.out (blw1 _ _)) hb
    replace Kt : Hid (Cw w8 w4.heap.size ns A4 ls.length c4) := Cw.keep (Cw.keep Kt.out (blw1 _ _)) hb
    replace Kd : Hid (Cw w8 w5.heap.size na A5 la.length c5) := Cw.keep (Cw.keep Kd.out (blw1 _ _)) hb
    replace Kp : Hid (Cw w8 w6.heap.size np A6 lp.length c6) := Cw.keep (Cw.keep Kp.out (blw1 _ _)) hb
    have Kx : Hid (Cw w8 w7.heap.size nx A7 lx.length c7) := Cw.keep (Cw.fresh (by simp) _ _ _ _ _) hb
    replace Sa : Hid (Sl w8 Aa la ca) := Sl.below (Sa.out.alloc _) hb
    replace Sb : Hid (Sl w8 Ab lb cb) := Sl.below (Sb.out.alloc _) hb
    replace Sc : Hid (Sl w8 Ac lc cc) := Sl.below (Sc.out.alloc _) hb
    replace Ss : Hid (Sl w8 A3 ls c3) := Sl.below (Ss.out.alloc _) hb
    replace St : Hid (Sl w8 A4 ls c4) := Sl.below (St.out.alloc _) hb
    replace Sd : Hid (Sl w8 A5 la c5) := Sl.below (Sd.out.alloc _) hb
    replace Sp : Hid (Sl w8 A6 lp c6) := Sl.below (Sp.out.alloc _) hb
    replace Sx : Hid (Sl w8 A7 lx c7) := Sl.below (Sx.out.alloc _) hb
    replace B : Hid (Below w.heap.size w w8) := below_mono (below_mono B.out (blw1 _ _)) hb
    clear hb
    have Sy : Hid (Sl w8 A8 ly c8) := hs8
    clear hs8
    (try dsimp only)
    replace hza : w.heap.size < w8.heap.size := lt_of_cell (a := ⟨w.heap.size, 0, none⟩) Ka.out.1
    replace hzb : w.heap.size + 1 < w8.heap.size := lt_of_cell (a := ⟨w.heap.size + 1, 0, none⟩) Kb.out.1
    replace hzc : w.heap.size + 1 + 1 < w8.heap.size := lt_of_cell (a := ⟨w.heap.size + 1 + 1, 0, none⟩) Kc.out.1
    replace hzs : w3.heap.size < w8.heap.size := lt_of_cell (a := ⟨w3.heap.size, 0, none⟩) Ks.out.1
    replace hzt : w4.heap.size < w8.heap.size := lt_of_cell (a := ⟨w4.heap.size, 0, none⟩) Kt.out.1
    replace hzd : w5.heap.size < w8.heap.size := lt_of_cell (a := ⟨w5.heap.size, 0, none⟩) Kd.out.1
    replace hzp : w6.heap.size < w8.heap.size := lt_of_cell (a := ⟨w6.heap.size, 0, none⟩) Kp.out.1
    have hzx : w7.heap.size < w8.heap.size := lt_of_cell (a := ⟨w7.heap.size, 0, none⟩) Kx.out.1
    obtain ⟨qx0, qx1⟩ := Kx.out
    go_wp2_with fail
    refine (wadd_any _ _ _ _ _ _ _ _ _ (Sx.out.alloc _) (Sy.out.alloc _)).mono ?_
    rw [H7.out]
    rintro e w9 ⟨A9, c9, rfl, hs9, hb⟩
    clear qx0 qx1
    replace Ka : Hid (Cw w9 w.heap.size na Aa la.length ca) := Cw.keep (Cw.keep Ka.out (blw1 _ _)) hb
    replace Kb : Hid (Cw w9 (w.heap.size + 1) nb Ab lb.length cb) := Cw.keep (Cw.keep Kb.out (blw1 _ _)) hb
    replace Kc : Hid (Cw w9 (w.heap.size + 1 + 1) nc Ac lc.length cc) := Cw.keep (Cw.keep Kc.out (blw1 _ _)) hb
    replace Ks : Hid (Cw w9 w3.heap.size ns A3 ls.length c3) := Cw.keep (Cw.keep Ks.out (blw1 _ _)) hb
    replace Kt : Hid (Cw w9 w4.heap.size ns A4 ls.length c4) := Cw.keep (Cw.keep Kt.out (blw1 _ _)) hb
    replace Kd : Hid (Cw w9 w5.heap.size na A5 la.length c5) := Cw.keep (Cw.keep Kd.out (blw1 _ _)) hb
    replace Kp : Hid (Cw w9 w6.heap.size np A6 lp.length c6) := Cw.keep (Cw.keep Kp.out (blw1 _ _)) hb
    replace Kx : Hid (Cw w9 w7.heap.size nx A7 lx.length c7) := Cw.keep (Cw.keep Kx.out (blw1 _ _)) hb
    have Ky : Hid (Cw w9 w8.heap.size ny A8 ly.length c8) := Cw.keep (Cw.fresh (by simp) _ _ _ _ _) hb
    replace Sa : Hid (Sl w9 Aa la ca) := Sl.below (Sa.out.alloc _) hb
    replace Sb : Hid (Sl w9 Ab lb cb) := Sl.below (Sb.out.alloc _) hb
    replace Sc : Hid (Sl w9 Ac lc cc) := Sl.below (Sc.out.alloc _) hb
    replace Ss : Hid (Sl w9 A3 ls c3) := Sl.below (Ss.out.alloc _) hb
    replace St : Hid (Sl w9 A4 ls c4) := Sl.below (St.out.alloc _) hb
    replace Sd : Hid (Sl w9 A5 la c5) := Sl.below (Sd.out.alloc _) hb
    replace Sp : Hid (Sl w9 A6 lp c6) := Sl.below (Sp.out.alloc _) hb
    replace Sx : Hid (Sl w9 A7 lx c7) := Sl.below (Sx.out.alloc _) hb
    replace Sy : Hid (Sl w9 A8 ly c8) := Sl.below (Sy.out.alloc _) hb
    replace B : Hid (Below w.heap.size w w9) := below_mono (below_mono B.out (blw1 _ _)) hb
    clear hb
    have Sz : Hid (Sl w9 A9 lp c9) := hs9
    clear hs9
    (try dsimp only)
    replace hza : w.heap.size < w9.heap.size := lt_of_cell (a := ⟨w.heap.size, 0, none⟩) Ka.out.1
    replace hzb : w.heap.size + 1 < w9.heap.size := lt_of_cell (a := ⟨w.heap.size + 1, 0, none⟩) Kb.out.1
    replace hzc : w.heap.size + 1 + 1 < w9.heap.size := lt_of_cell (a := ⟨w.heap.size + 1 + 1, 0, none⟩) Kc.out.1
    replace hzs : w3.heap.size < w9.heap.size := lt_of_cell (a := ⟨w3.heap.size, 0, none⟩) Ks.out.1
    replace hzt : w4.heap.size < w9.heap.size := lt_of_cell (a := ⟨w4.heap.size, 0, none⟩) Kt.out.1
    replace hzd : w5.heap.size < w9.heap.size := lt_of_cell (a := ⟨w5.heap.size, 0, none⟩) Kd.out.1
    replace hzp : w6.heap.size < w9.heap.size := lt_of_cell (a := ⟨w6.heap.size, 0, none⟩) Kp.out.1
    replace hzx : w7.heap.size < w9.heap.size := lt_of_cell (a := ⟨w7.heap.size, 0, none⟩) Kx.out.1
    have hzy : w8.heap.size < w9.heap.size := lt_of_cell (a := ⟨w8.heap.size, 0, none⟩) Ky.out.1
    obtain ⟨qa0, qa1⟩ := Ka.out
    go_wp2_with fail
    refine (wsub_any _ _ _ _ _ _ _ _ _ (Sa.out.alloc _) (Sa.out.alloc _)).mono ?_
    rw [H8.out]
    rintro e w10 ⟨A10, c10, rfl, hs10, hb⟩
    clear qa0 qa1
    replace Ka : Hid (Cw w10 w.heap.size na Aa la.length ca) := Cw.keep (Cw.keep Ka.out (blw1 _ _)) hb
    replace Kb : Hid (Cw w10 (w.heap.size + 1) nb Ab lb.length cb) := Cw.keep (Cw.keep Kb.out (blw1 _ _)) hb
    replace Kc : Hid (Cw w10 (w.heap.size + 1 + 1) nc Ac lc.length cc) := Cw.keep (Cw.keep Kc.out (blw1 _ _)) hb
    replace Ks : Hid (Cw w10 w3.heap.size ns A3 ls.length c3) := Cw.keep (Cw.keep Ks.out (blw1 _ _)) hb
    replace Kt : Hid (Cw w10 w4.heap.size ns A4 ls.length c4) := Cw.keep (Cw.keep Kt.out (blw1 _ _)) hb
    replace Kd : Hid (Cw w10 w5.heap.size na A5 la.length c5) := Cw.keep (Cw.keep Kd.out (blw1 _ _)) hb
    replace Kp : Hid (Cw w10 w6.heap.size np A6 lp.length c6) := Cw.keep (Cw.keep Kp.out (blw1 _ _)) hb
    replace Kx : Hid (Cw w10 w7.heap.size nx A7 lx.length c7) := Cw.keep (Cw.keep Kx.out (blw1 _ _)) hb
    replace Ky : Hid (Cw w10 w8.heap.size ny A8 ly.length c8) := Cw.keep (Cw.keep Ky.out (blw1 _ _)) hb
    have Kz : Hid (Cw w10 w9.heap.size np A9 lp.length c9) := Cw.keep (Cw.fresh (by simp) _ _ _ _ _) hb
    replace Sa : Hid (Sl w10 Aa la ca) := Sl.below (Sa.out.alloc _) hb
    replace Sb : Hid (Sl w10 Ab lb cb) := Sl.below (Sb.out.alloc _) hb
    replace Sc : Hid (Sl w10 Ac lc cc) := Sl.below (Sc.out.alloc _) hb
    replace Ss : Hid (Sl w10 A3 ls c3) := Sl.below (Ss.out.alloc _) hb
    replace St : Hid (Sl w10 A4 ls c4) := Sl.below (St.out.alloc _) hb
    replace Sd : Hid (Sl w10 A5 la c5) := Sl.below (Sd.out.alloc _) hb
    replace Sp : Hid (Sl w10 A6 lp c6) := Sl.below (Sp.out.alloc _) hb
    replace Sx : Hid (Sl w10 A7 lx c7) := Sl.below (Sx.out.alloc _) hb
    replace Sy : Hid (Sl w10 A8 ly c8) := Sl.below (Sy.out.alloc _) hb
    replace Sz : Hid (Sl w10 A9 lp c9) := Sl.below (Sz.out.alloc _) hb
    replace B : Hid (Below w.heap.size w w10) := below_mono (below_mono B.out (blw1 _ _)) hb
    clear hb
    have Sq : Hid (Sl w10 A10 lq c10) := hs10
    clear hs10
    (try dsimp only)
    replace hza : w.heap.size < w10.heap.size := lt_of_cell (a := ⟨w.heap.size, 0, none⟩) Ka.out.1
    replace hzb : w.heap.size + 1 < w10.heap.size := lt_of_cell (a := ⟨w.heap.size + 1, 0, none⟩) Kb.out.1
    replace hzc : w.heap.size + 1 + 1 < w10.heap.size := lt_of_cell (a := ⟨w.heap.size + 1 + 1, 0, none⟩) Kc.out.1
    replace hzs : w3.heap.size < w10.heap.size := lt_of_cell (a := ⟨w3.heap.size, 0, none⟩) Ks.out.1
    replace hzt : w4.heap.size < w10.heap.size := lt_of_cell (a := ⟨w4.heap.size, 0, none⟩) Kt.out.1
    replace hzd : w5.heap.size < w10.heap.size := lt_of_cell (a := ⟨w5.heap.size, 0, none⟩) Kd.out.1
    replace hzp : w6.heap.size < w10.heap.size := lt_of_cell (a := ⟨w6.heap.size, 0, none⟩) Kp.out.1
    replace hzx : w7.heap.size < w10.heap.size := lt_of_cell (a := ⟨w7.heap.size, 0, none⟩) Kx.out.1
    replace hzy : w8.heap.size < w10.heap.size := lt_of_cell (a := ⟨w8.heap.size, 0, none⟩) Ky.out.1
    have hzz : w9.heap.size < w10.heap.size := lt_of_cell (a := ⟨w9.heap.size, 0, none⟩) Kz.out.1
    obtain ⟨qs0, qs1⟩ := Ks.out
    obtain ⟨qt0, qt1⟩ := Kt.out
    go_wp2_with fail
    refine (same_any _ _ _ _ _ _ _ _ _ (Ss.out.alloc _) (St.out.alloc _)).mono ?_
    rw [HSs.out]
    rintro e w11 ⟨rfl, hb⟩
    clear qs0 qs1 qt0 qt1
    replace Ka : Hid (Cw w11 w.heap.size na Aa la.length ca) := Cw.keep (Cw.keep Ka.out (blw1 _ _)) hb
    replace Kb : Hid (Cw w11 (w.heap.size + 1) nb Ab lb.length cb) := Cw.keep (Cw.keep Kb.out (blw1 _ _)) hb
    replace Kc : Hid (Cw w11 (w.heap.size + 1 + 1) nc Ac lc.length cc) := Cw.keep (Cw.keep Kc.out (blw1 _ _)) hb
    replace Ks : Hid (Cw w11 w3.heap.size ns A3 ls.length c3) := Cw.keep (Cw.keep Ks.out (blw1 _ _)) hb
    replace Kt : Hid (Cw w11 w4.heap.size ns A4 ls.length c4) := Cw.keep (Cw.keep Kt.out (blw1 _ _)) hb
    replace Kd : Hid (Cw w11 w5.heap.size na A5 la.length c5) := Cw.keep (Cw.keep Kd.out (blw1 _ _)) hb
    replace Kp : Hid (Cw w11 w6.heap.size np A6 lp.length c6) := Cw.keep (Cw.keep Kp.out (blw1 _ _)) hb
    replace Kx : Hid (Cw w11 w7.heap.size nx A7 lx.length c7) := Cw.keep (Cw.keep Kx.out (blw1 _ _)) hb
    replace Ky : Hid (Cw w11 w8.heap.size ny A8 ly.length c8) := Cw.keep (Cw.keep Ky.out (blw1 _ _)) hb
    replace Kz : Hid (Cw w11 w9.heap.size np A9 lp.length c9) := Cw.keep (Cw.keep Kz.out (blw1 _ _)) hb
    have Kq : Hid (Cw w11 w10.heap.size nq A10 lq.length c10) := Cw.keep (Cw.fresh (by simp) _ _ _ _ _) hb
    replace Sa : Hid (Sl w11 Aa la ca) := Sl.below (Sa.out.alloc _) hb
    replace Sb : Hid (Sl w11 Ab lb cb) := Sl.below (Sb.out.alloc _) hb
    replace Sc : Hid (Sl w11 Ac lc cc) := Sl.below (Sc.out.alloc _) hb
    replace Ss : Hid (Sl w11 A3 ls c3) := Sl.below (Ss.out.alloc _) hb
    replace St : Hid (Sl w11 A4 ls c4) := Sl.below (St.out.alloc _) hb
    replace Sd : Hid (Sl w11 A5 la c5) := Sl.below (Sd.out.alloc _) hb
    replace Sp : Hid (Sl w11 A6 lp c6) := Sl.below (Sp.out.alloc _) hb
    replace Sx : Hid (Sl w11 A7 lx c7) := Sl.below (Sx.out.alloc _) hb
    replace Sy : Hid (Sl w11 A8 ly c8) := Sl.below (Sy.out.alloc _) hb
    replace Sz : Hid (Sl w11 A9 lp c9) := Sl.below (Sz.out.alloc _) hb
    replace Sq : Hid (Sl w11 A10 lq c10) := Sl.below (Sq.out.alloc _) hb
    replace B : Hid (Below w.heap.size w w11) := below_mono (below_mono B.out (blw1 _ _)) hb
    clear hb
    replace hza : w.heap.size < w11.heap.size := lt_of_cell (a := ⟨w.heap.size, 0, none⟩) Ka.out.1
    replace hzb : w.heap.size + 1 < w11.heap.size := lt_of_cell (a := ⟨w.heap.size + 1, 0, none⟩) Kb.out.1
    replace hzc : w.heap.size + 1 + 1 < w11.heap.size := lt_of_cell (a := ⟨w.heap.size + 1 + 1, 0, none⟩) Kc.out.1
    replace hzs : w3.heap.size < w11.heap.size := lt_of_cell (a := ⟨w3.heap.size, 0, none⟩) Ks.out.1
    replace hzt : w4.heap.size < w11.heap.size := lt_of_cell (a := ⟨w4.heap.size, 0, none⟩) Kt.out.1
    replace hzd : w5.heap.size < w11.heap.size := lt_of_cell (a := ⟨w5.heap.size, 0, none⟩) Kd.out.1
    replace hzp : w6.heap.size < w11.heap.size := lt_of_cell (a := ⟨w6.heap.size, 0, none⟩) Kp.out.1
    replace hzx : w7.heap.size < w11.heap.size := lt_of_cell (a := ⟨w7.heap.size, 0, none⟩) Kx.out.1
    replace hzy : w8.heap.size < w11.heap.size := lt_of_cell (a := ⟨w8.heap.size, 0, none⟩) Ky.out.1
    replace hzz : w9.heap.size < w11.heap.size := lt_of_cell (a := ⟨w9.heap.size, 0, none⟩) Kz.out.1
    have hzq : w10.heap.size < w11.heap.size := lt_of_cell (a := ⟨w10.heap.size, 0, none⟩) Kq.out.1
    obtain ⟨qd0, qd1⟩ := Kd.out
    obtain ⟨qa0, qa1⟩ := Ka.out
    go_wp2_with fail
    refine (same_any _ _ _ _ _ _ _ _ _ Sd.out Sa.out).mono ?_
    rw [HSa.out]
    rintro e w12 ⟨rfl, hb⟩
    clear qd0 qd1 qa0 qa1
    replace Ka : Hid (Cw w12 w.heap.size na Aa la.length ca) := Cw.keep Ka.out hb
    replace Kb : Hid (Cw w12 (w.heap.size + 1) nb Ab lb.length cb) := Cw.keep Kb.out hb
    replace Kc : Hid (Cw w12 (w.heap.size + 1 + 1) nc Ac lc.length cc) := Cw.keep Kc.out hb
    replace Ks : Hid (Cw w12 w3.heap.size ns A3 ls.length c3) := Cw.keep Ks.out hb
    replace Kt : Hid (Cw w12 w4.heap.size ns A4 ls.length c4) := Cw.keep Kt.out hb
    replace Kd : Hid (Cw w12 w5.heap.size na A5 la.length c5) := Cw.keep Kd.out hb
    replace Kp : Hid (Cw w12 w6.heap.size np A6 lp.length c6) := Cw.keep Kp.out hb
    replace Kx : Hid (Cw w12 w7.heap.size nx A7 lx.length c7) := Cw.keep Kx.out hb
    replace Ky : Hid (Cw w12 w8.heap.size ny A8 ly.length c8) := Cw.keep Ky.out hb
    replace Kz : Hid (Cw w12 w9.heap.size np A9 lp.length c9) := Cw.keep Kz.out hb
    replace Kq : Hid (Cw w12 w10.heap.size nq A10 lq.length c10) := Cw.keep Kq.out hb
    replace Sa : Hid (Sl w12 Aa la ca) := Sl.below Sa.out hb
    replace Sb : Hid (Sl w12 Ab lb cb) := Sl.below Sb.out hb
    replace Sc : Hid (Sl w12 Ac lc cc) := Sl.below Sc.out hb
    replace Ss : Hid (Sl w12 A3 ls c3) := Sl.below Ss.out hb
    replace St : Hid (Sl w12 A4 ls c4) := Sl.below St.out hb
    replace Sd : Hid (Sl w12 A5 la c5) := Sl.below Sd.out hb
    replace Sp : Hid (Sl w12 A6 lp c6) := Sl.below Sp.out hb
    replace Sx : Hid (Sl w12 A7 lx c7) := Sl.below Sx.out hb
    replace Sy : Hid (Sl w12 A8 ly c8) := Sl.below Sy.out hb
    replace Sz : Hid (Sl w12 A9 lp c9) := Sl.below Sz.out hb
    replace Sq : Hid (Sl w12 A10 lq c10) := Sl.below Sq.out hb
    replace B : Hid (Below w.heap.size w w12) := below_mono B.out hb
    clear hb
    replace hza : w.heap.size < w12.heap.size := lt_of_cell (a := ⟨w.heap.size, 0, none⟩) Ka.out.1
    replace hzb : w.heap.size + 1 < w12.heap.size := lt_of_cell (a := ⟨w.heap.size + 1, 0, none⟩) Kb.out.1
    replace hzc : w.heap.size + 1 + 1 < w12.heap.size := lt_of_cell (a := ⟨w.heap.size + 1 + 1, 0, none⟩) Kc.out.1
    replace hzs : w3.heap.size < w12.heap.size := lt_of_cell (a := ⟨w3.heap.size, 0, none⟩) Ks.out.1
    replace hzt : w4.heap.size < w12.heap.size := lt_of_cell (a := ⟨w4.heap.size, 0, none⟩) Kt.out.1
    replace hzd : w5.heap.size < w12.heap.size := lt_of_cell (a := ⟨w5.heap.size, 0, none⟩) Kd.out.1
    replace hzp : w6.heap.size < w12.heap.size := lt_of_cell (a := ⟨w6.heap.size, 0, none⟩) Kp.out.1
    replace hzx : w7.heap.size < w12.heap.size := lt_of_cell (a := ⟨w7.heap.size, 0, none⟩) Kx.out.1
    replace hzy : w8.heap.size < w12.heap.size := lt_of_cell (a := ⟨w8.heap.size, 0, none⟩) Ky.out.1
    replace hzz : w9.heap.size < w12.heap.size := lt_of_cell (a := ⟨w9.heap.size, 0, none⟩) Kz.out.1
    replace hzq : w10.heap.size < w12.heap.size := lt_of_cell (a := ⟨w10.heap.size, 0, none⟩) Kq.out.1
    obtain ⟨qp0, qp1⟩ := Kp.out
    obtain ⟨qz0, qz1⟩ := Kz.out
    go_wp2_with fail
    refine (same_any _ _ _ _ _ _ _ _ _ Sp.out Sz.out).mono ?_
    rw [HSp.out]
    rintro e w13 ⟨rfl, hb⟩
    clear qp0 qp1 qz0 qz1
    replace Ka : Hid (Cw w13 w.heap.size na Aa la.length ca) := Cw.keep Ka.out hb
    replace Kb : Hid (Cw w13 (w.heap.size + 1) nb Ab lb.length cb) := Cw.keep Kb.out hb
    replace Kc : Hid (Cw w13 (w.heap.size + 1 + 1) nc Ac lc.length cc) := Cw.keep Kc.out hb
    replace Ks : Hid (Cw w13 w3.heap.size ns A3 ls.length c3) := Cw.keep Ks.out hb
    replace Kt : Hid (Cw w13 w4.heap.size ns A4 ls.length c4) := Cw.keep Kt.out hb
    replace Kd : Hid (Cw w13 w5.heap.size na A5 la.length c5) := Cw.keep Kd.out hb
    replace Kp : Hid (Cw w13 w6.heap.size np A6 lp.length c6) := Cw.keep Kp.out hb
    replace Kx : Hid (Cw w13 w7.heap.size nx A7 lx.length c7) := Cw.keep Kx.out hb
    replace Ky : Hid (Cw w13 w8.heap.size ny A8 ly.length c8) := Cw.keep Ky.out hb
    replace Kz : Hid (Cw w13 w9.heap.size np A9 lp.length c9) := Cw.keep Kz.out hb
    replace Kq : Hid (Cw w13 w10.heap.size nq A10 lq.length c10) := Cw.keep Kq.out hb
    replace Sa : Hid (Sl w13 Aa la ca) := Sl.below Sa.out hb
    replace Sb : Hid (Sl w13 Ab lb cb) := Sl.below Sb.out hb
    replace Sc : Hid (Sl w13 Ac lc cc) := Sl.below Sc.out hb
    replace Ss : Hid (Sl w13 A3 ls c3) := Sl.below Ss.out hb
    replace St : Hid (Sl w13 A4 ls c4) := Sl.below St.out hb
    replace Sd : Hid (Sl w13 A5 la c5) := Sl.below Sd.out hb
    replace Sp : Hid (Sl w13 A6 lp c6) := Sl.below Sp.out hb
    replace Sx : Hid (Sl w13 A7 lx c7) := Sl.below Sx.out hb
    replace Sy : Hid (Sl w13 A8 ly c8) := Sl.below Sy.out hb
    replace Sz : Hid (Sl w13 A9 lp c9) := Sl.below Sz.out hb
    replace Sq : Hid (Sl w13 A10 lq c10) := Sl.below Sq.out hb
    replace B : Hid (Below w.heap.size w w13) := below_mono B.out hb
    clear hb
    replace hza : w.heap.size < w13.heap.size := lt_of_cell (a := ⟨w.heap.size, 0, none⟩) Ka.out.1
    replace hzb : w.heap.size + 1 < w13.heap.size := lt_of_cell (a := ⟨w.heap.size + 1, 0, none⟩) Kb.out.1
    replace hzc : w.heap.size + 1 + 1 < w13.heap.size := lt_of_cell (a := ⟨w.heap.size + 1 + 1, 0, none⟩) Kc.out.1
    replace hzs : w3.heap.size < w13.heap.size := lt_of_cell (a := ⟨w3.heap.size, 0, none⟩) Ks.out.1
    replace hzt : w4.heap.size < w13.heap.size := lt_of_cell (a := ⟨w4.heap.size, 0, none⟩) Kt.out.1
    replace hzd : w5.heap.size < w13.heap.size := lt_of_cell (a := ⟨w5.heap.size, 0, none⟩) Kd.out.1
    replace hzp : w6.heap.size < w13.heap.size := lt_of_cell (a := ⟨w6.heap.size, 0, none⟩) Kp.out.1
    replace hzx : w7.heap.size < w13.heap.size := lt_of_cell (a := ⟨w7.heap.size, 0, none⟩) Kx.out.1
    replace hzy : w8.heap.size < w13.heap.size := lt_of_cell (a := ⟨w8.heap.size, 0, none⟩) Ky.out.1
    replace hzz : w9.heap.size < w13.heap.size := lt_of_cell (a := ⟨w9.heap.size, 0, none⟩) Kz.out.1
    replace hzq : w10.heap.size < w13.heap.size := lt_of_cell (a := ⟨w10.heap.size, 0, none⟩) Kq.out.1
    obtain ⟨qq0, qq1⟩ := Kq.out
    obtain ⟨qp0, qp1⟩ := Kp.out
    have hlq := Hlq.out
    have hnq := Hnq.out
    go_wp2_with fail
    refine (rcheck_any _ _ _ _ _ Sp.out).mono ?_
    rw [HC.out]
    rintro e w14 ⟨rfl, hb⟩
    clear qq0 qq1 qp0 qp1
    replace Ka : Hid (Cw w14 w.heap.size na Aa la.length ca) := Cw.keep Ka.out hb
    replace Kb : Hid (Cw w14 (w.heap.size + 1) nb Ab lb.length cb) := Cw.keep Kb.out hb
    replace Kc : Hid (Cw w14 (w.heap.size + 1 + 1) nc Ac lc.length cc) := Cw.keep Kc.out hb
    replace Ks : Hid (Cw w14 w3.heap.size ns A3 ls.length c3) := Cw.keep Ks.out hb
    replace Kt : Hid (Cw w14 w4.heap.size ns A4 ls.length c4) := Cw.keep Kt.out hb
    replace Kd : Hid (Cw w14 w5.heap.size na A5 la.length c5) := Cw.keep Kd.out hb
    replace Kp : Hid (Cw w14 w6.heap.size np A6 lp.length c6) := Cw.keep Kp.out hb
    replace Kx : Hid (Cw w14 w7.heap.size nx A7 lx.length c7) := Cw.keep Kx.out hb
    replace Ky : Hid (Cw w14 w8.heap.size ny A8 ly.length c8) := Cw.keep Ky.out hb
    replace Kz : Hid (Cw w14 w9.heap.size np A9 lp.length c9) := Cw.keep Kz.out hb
    replace Kq : Hid (Cw w14 w10.heap.size nq A10 lq.length c10) := Cw.keep Kq.out hb
    replace Sa : Hid (Sl w14 Aa la ca) := Sl.below Sa.out hb
    replace Sb : Hid (Sl w14 Ab lb cb) := Sl.below Sb.out hb
    replace Sc : Hid (Sl w14 Ac lc cc) := Sl.below Sc.out hb
    replace Ss : Hid (Sl w14 A3 ls c3) := Sl.below Ss.out hb
    replace St : Hid (Sl w14 A4 ls c4) := Sl.below St.out hb
    replace Sd : Hid (Sl w14 A5 la c5) := Sl.below Sd.out hb
    replace Sp : Hid (Sl w14 A6 lp c6) := Sl.below Sp.out hb
    replace Sx : Hid (Sl w14 A7 lx c7) := Sl.below Sx.out hb
    replace Sy : Hid (Sl w14 A8 ly c8) := Sl.below Sy.out hb
    replace Sz : Hid (Sl w14 A9 lp c9) := Sl.below Sz.out hb
    replace Sq : Hid (Sl w14 A10 lq c10) := Sl.below Sq.out hb
    replace B : Hid (Below w.heap.size w w14) := below_mono B.out hb
    clear hb
    replace hza : w.heap.size < w14.heap.size := lt_of_cell (a := ⟨w.heap.size, 0, none⟩) Ka.out.1
    replace hzb : w.heap.size + 1 < w14.heap.size := lt_of_cell (a := ⟨w.heap.size + 1, 0, none⟩) Kb.out.1
    replace hzc : w.heap.size + 1 + 1 < w14.heap.size := lt_of_cell (a := ⟨w.heap.size + 1 + 1, 0, none⟩) Kc.out.1
    replace hzs : w3.heap.size < w14.heap.size := lt_of_cell (a := ⟨w3.heap.size, 0, none⟩) Ks.out.1
    replace hzt : w4.heap.size < w14.heap.size := lt_of_cell (a := ⟨w4.heap.size, 0, none⟩) Kt.out.1
    replace hzd : w5.heap.size < w14.heap.size := lt_of_cell (a := ⟨w5.heap.size, 0, none⟩) Kd.out.1
    replace hzp : w6.heap.size < w14.heap.size := lt_of_cell (a := ⟨w6.heap.size, 0, none⟩) Kp.out.1
    replace hzx : w7.heap.size < w14.heap.size := lt_of_cell (a := ⟨w7.heap.size, 0, none⟩) Kx.out.1
    replace hzy : w8.heap.size < w14.heap.size := lt_of_cell (a := ⟨w8.heap.size, 0, none⟩) Ky.out.1
    replace hzz : w9.heap.size < w14.heap.size := lt_of_cell (a := ⟨w9.heap.size, 0, none⟩) Kz.out.1
    replace hzq : w10.heap.size < w14.heap.size := lt_of_cell (a := ⟨w10.heap.size, 0, none⟩) Kq.out.1
    go_wp2
    go_ret
    exact ⟨rfl, B.out⟩

end Go.Proofs.YtejapkdhbpngbaaDoor

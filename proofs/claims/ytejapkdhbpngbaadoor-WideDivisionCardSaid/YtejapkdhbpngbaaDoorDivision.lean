/- The walk of the law WideDivision. -/
import Derived.Test.YtejapkdhbpngbaaDoorW5
import Derived.Test.YtejapkdhbpngbaaDoorW7
import Derived.Test.YtejapkdhbpngbaaDoorW20
import Derived.Test.YtejapkdhbpngbaaDoorW52
import Derived.Test.YtejapkdhbpngbaaDoorMathZ
namespace Go.Proofs.YtejapkdhbpngbaaDoor
open Go.RowKit
attribute [local go_sem ↓] Go.wp_at_zero Go.wp_at_succ
theorem long_facts {most : Nat} {n1 n2 n3 : Bool} {l1 l2 l3 : List Nat} (h : longB most n1 l1 n2 l2 n3 l3 = false) :
    badL n1 l1 = false ∧ badL n2 l2 = false ∧ badL n3 l3 = false ∧ l1.length ≤ most ∧ l2.length ≤ most ∧ l3.length ≤ most := by
  unfold longB at h
  simp only [Bool.or_eq_false_iff, decide_eq_false_iff_not] at h
  obtain ⟨⟨⟨⟨⟨a, b⟩, c⟩, d⟩, e⟩, f⟩ := h
  exact ⟨a, b, c, by omega, by omega, by omega⟩

theorem lt_sum {a b k : Nat} (ha : a < 4294967296 ^ k) (hb : b < 4294967296 ^ k) : a + b < 4294967296 ^ (k + 1) := by
  rw [Nat.pow_succ]; omega

theorem division_facts {na nb : Bool} {la lb : List Nat} (h1 : Lim la) (h2 : Lim lb) (hlong : longB 200 na la nb lb nb lb = false) (hl0 : lb.length ≠ 0) :
    ∃ q r p x y : Bool × List Nat, dmS na la nb lb = (q, r, 0) ∧ chk q.1 q.2 = 0 ∧ chk r.1 r.2 = 0 ∧ mulS q.1 q.2 nb lb = (p, 0) ∧ addS p.1 p.2 r.1 r.2 = ((na, la), 0) ∧ absS r.1 r.2 = (x, 0) ∧ absS nb lb = (y, 0) ∧ cmpW x.1 x.2 y.1 y.2 = -1 ∧ (r.2.length = 0 ∨ r.1 = nb) := by
  obtain ⟨g1, g2, _, s1, s2, _⟩ := long_facts hlong
  have v1 := vz_of h1 g1
  have v2 := vz_of h2 g2
  generalize zv na la = x at *
  generalize zv nb lb = y at *
  have hy : y ≠ 0 := fun e => hl0 (v2.zero.2 e)
  have vq : VZ (wOf (x.fdiv y)).1 (wOf (x.fdiv y)).2 (x.fdiv y) := vz_wOf (fit_fdiv v1.2)
  have vr : VZ (wOf (x.fmod y)).1 (wOf (x.fmod y)).2 (x.fmod y) := vz_wOf (fit_fmod hy v2.2)
  have e1 := Int.fdiv_mul_add_fmod x y
  have b1 := fmod_bd (x := x) hy
  obtain ⟨k, hk⟩ : ∃ k, k = 200 := ⟨_, rfl⟩
  have hp : fitZ (x.fdiv y * y) := by
    refine fit_of_lt (k := k + 1) ?_ (by omega)
    have t1 := v1.lt_of (k := k) (by omega)
    have t2 := v2.lt_of (k := k) (by omega)
    have t3 := lt_sum t1 t2
    omega
  have vp : VZ (wOf (x.fdiv y * y)).1 (wOf (x.fdiv y * y)).2 (x.fdiv y * y) := vz_wOf hp
  have fx : fitZ ((x.fmod y).natAbs : Int) := fit_mono (b := x.fmod y) (by simp) vr.2
  have fy : fitZ (y.natAbs : Int) := fit_mono (b := y) (by simp) v2.2
  refine ⟨wOf (x.fdiv y), wOf (x.fmod y), wOf (x.fdiv y * y), wOf (x.fmod y).natAbs, wOf y.natAbs, dmS_z v1 v2 hy, vq.chk, vr.chk, mulS_z vq v2 hp, ?_, absS_z vr, absS_z v2, ?_, ?_⟩
  · rw [addS_z vp vr (by rw [e1]; exact v1.2), e1, v1.1]
  · rw [cmpW_z (vz_wOf fx) (vz_wOf fy)]
    unfold cmpZ
    rw [if_pos (by omega)]
  · rcases fmod_sign (x := x) hy with h | h
    · exact .inl (vr.zero.2 h)
    · right
      rw [v2.neg_eq, ← h]; rfl

set_option maxRecDepth 100000 in
set_option maxHeartbeats 4000000 in
theorem wideDivision_walk (na nb : Bool) (A1 A2 : Option Addr) (la lb : List Nat) (ca cb : Nat) (w : World) (hsa : Sl w A1 la ca) (hsb : Sl w A2 lb cb) :
    Calls Tryd.prog 4 #[.agg #[.bool na, .slice A1 la.length ca], .agg #[.bool nb, .slice A2 lb.length cb]] w fun e w' => e = .returned (.bool true) ∧ Below w.heap.size w w' := by
  have Sa := Lib.hid hsa
  have Sb := Lib.hid hsb
  have B : Hid (Below w.heap.size w w) := Below.refl _ _
  cases hlong : longB 200 na la nb lb nb lb with
  | true =>
    have Hlong := Lib.hid hlong
    clear hsa hsb hlong
    go_enter Tryd.func4, Tryd.ntmps4
    go_wp2_with fail
    refine (alive_any _).mono ?_
    rintro e w1 ⟨rfl, hb⟩
    have Ka : Hid (Cw w1 w.heap.size na A1 la.length ca) := Cw.keep (Cw.keep (Cw.fresh (by simp) _ _ _ _ _) (blw1 _ _)) hb
    have Kb : Hid (Cw w1 (w.heap.size + 1) nb A2 lb.length cb) := Cw.keep (Cw.fresh (by simp) _ _ _ _ _) hb
    replace Sa : Hid (Sl w1 A1 la ca) := Sl.below ((Sa.out.alloc _).alloc _) hb
    replace Sb : Hid (Sl w1 A2 lb cb) := Sl.below ((Sb.out.alloc _).alloc _) hb
    replace B : Hid (Below w.heap.size w w1) := below_mono (below_mono (below_mono B.out (blw1 _ _)) (blw1 _ _)) hb
    clear hb
    obtain ⟨qa0, qa1⟩ := Ka.out
    obtain ⟨qb0, qb1⟩ := Kb.out
    have hza : w.heap.size < w1.heap.size := lt_of_cell (a := ⟨w.heap.size, 0, none⟩) Ka.out.1
    have hzb : w.heap.size + 1 < w1.heap.size := lt_of_cell (a := ⟨w.heap.size + 1, 0, none⟩) Kb.out.1
    go_wp2_with fail
    refine (long_any 200 _ _ _ _ _ _ _ _ _ _ _ _ _ Sa.out Sb.out Sb.out).mono ?_
    rw [Hlong.out]
    rintro e w2 ⟨rfl, hb⟩
    clear qa0 qa1 qb0 qb1
    replace Ka : Hid (Cw w2 w.heap.size na A1 la.length ca) := Cw.keep Ka.out hb
    replace Kb : Hid (Cw w2 (w.heap.size + 1) nb A2 lb.length cb) := Cw.keep Kb.out hb
    replace Sa : Hid (Sl w2 A1 la ca) := Sl.below Sa.out hb
    replace Sb : Hid (Sl w2 A2 lb cb) := Sl.below Sb.out hb
    replace B : Hid (Below w.heap.size w w2) := below_mono B.out hb
    clear hb
    obtain ⟨qa0, qa1⟩ := Ka.out
    obtain ⟨qb0, qb1⟩ := Kb.out
    replace hza : w.heap.size < w2.heap.size := lt_of_cell (a := ⟨w.heap.size, 0, none⟩) Ka.out.1
    replace hzb : w.heap.size + 1 < w2.heap.size := lt_of_cell (a := ⟨w.heap.size + 1, 0, none⟩) Kb.out.1
    go_wp2
    go_ret
    exact ⟨rfl, B.out⟩
  | false =>
    by_cases hl0 : lb.length = 0
    · have Hlong := Lib.hid hlong
      have Hl0 := Lib.hid hl0
      clear hsa hsb hlong hl0
      go_enter Tryd.func4, Tryd.ntmps4
      go_wp2_with fail
      refine (alive_any _).mono ?_
      rintro e w1 ⟨rfl, hb⟩
      have Ka : Hid (Cw w1 w.heap.size na A1 la.length ca) := Cw.keep (Cw.keep (Cw.fresh (by simp) _ _ _ _ _) (blw1 _ _)) hb
      have Kb : Hid (Cw w1 (w.heap.size + 1) nb A2 lb.length cb) := Cw.keep (Cw.fresh (by simp) _ _ _ _ _) hb
      replace Sa : Hid (Sl w1 A1 la ca) := Sl.below ((Sa.out.alloc _).alloc _) hb
      replace Sb : Hid (Sl w1 A2 lb cb) := Sl.below ((Sb.out.alloc _).alloc _) hb
      replace B : Hid (Below w.heap.size w w1) := below_mono (below_mono (below_mono B.out (blw1 _ _)) (blw1 _ _)) hb
      clear hb
      obtain ⟨qa0, qa1⟩ := Ka.out
      obtain ⟨qb0, qb1⟩ := Kb.out
      have hza : w.heap.size < w1.heap.size := lt_of_cell (a := ⟨w.heap.size, 0, none⟩) Ka.out.1
      have hzb : w.heap.size + 1 < w1.heap.size := lt_of_cell (a := ⟨w.heap.size + 1, 0, none⟩) Kb.out.1
      go_wp2_with fail
      refine (long_any 200 _ _ _ _ _ _ _ _ _ _ _ _ _ Sa.out Sb.out Sb.out).mono ?_
      rw [Hlong.out]
      rintro e w2 ⟨rfl, hb⟩
      clear qa0 qa1 qb0 qb1
      replace Ka : Hid (Cw w2 w.heap.size na A1 la.length ca) := Cw.keep Ka.out hb
      replace Kb : Hid (Cw w2 (w.heap.size + 1) nb A2 lb.length cb) := Cw.keep Kb.out hb
      replace Sa : Hid (Sl w2 A1 la ca) := Sl.below Sa.out hb
      replace Sb : Hid (Sl w2 A2 lb cb) := Sl.below Sb.out hb
      replace B : Hid (Below w.heap.size w w2) := below_mono B.out hb
      clear hb
      obtain ⟨qa0, qa1⟩ := Ka.out
      obtain ⟨qb0, qb1⟩ := Kb.out
      replace hza : w.heap.size < w2.heap.size := lt_of_cell (a := ⟨w.heap.size, 0, none⟩) Ka.out.1
      replace hzb : w.heap.size + 1 < w2.heap.size := lt_of_cell (a := ⟨w.heap.size + 1, 0, none⟩) Kb.out.1
      have hl0 := Hl0.out
      go_wp2
      go_ret
      exact ⟨rfl, B.out⟩
    · obtain ⟨⟨nq, lq⟩, ⟨nr, lr⟩, ⟨np, lp⟩, ⟨nx, lx⟩, ⟨ny, ly⟩, hD, hCq, hCr, hM, hA, hX, hY, hCmp, hrn⟩ := division_facts hsa.lim hsb.lim hlong (by omega)
      have HS : Hid (sameB na la na la = true) := sameB_self na la
      have hlb : ((lb.length : Int) == 0) = false := beq_eq_false_iff_ne.2 (by omega)
      have Hlong := Lib.hid hlong
      have HD := Lib.hid hD
      have HCq := Lib.hid hCq
      have HCr := Lib.hid hCr
      have HM := Lib.hid hM
      have HA := Lib.hid hA
      have HX := Lib.hid hX
      have HY := Lib.hid hY
      have HCmp := Lib.hid hCmp
      have Hrn := Lib.hid hrn
      clear hsa hsb hlong hl0 hD hCq hCr hM hA hX hY hCmp hrn
      dsimp only at HD HCq HCr HM HA HX HY HCmp Hrn
      go_enter Tryd.func4, Tryd.ntmps4
      go_wp2_with fail
      refine (alive_any _).mono ?_
      rintro e w1 ⟨rfl, hb⟩
      have Ka : Hid (Cw w1 w.heap.size na A1 la.length ca) := Cw.keep (Cw.keep (Cw.fresh (by simp) _ _ _ _ _) (blw1 _ _)) hb
      have Kb : Hid (Cw w1 (w.heap.size + 1) nb A2 lb.length cb) := Cw.keep (Cw.fresh (by simp) _ _ _ _ _) hb
      replace Sa : Hid (Sl w1 A1 la ca) := Sl.below ((Sa.out.alloc _).alloc _) hb
      replace Sb : Hid (Sl w1 A2 lb cb) := Sl.below ((Sb.out.alloc _).alloc _) hb
      replace B : Hid (Below w.heap.size w w1) := below_mono (below_mono (below_mono B.out (blw1 _ _)) (blw1 _ _)) hb
      clear hb
      obtain ⟨qa0, qa1⟩ := Ka.out
      obtain ⟨qb0, qb1⟩ := Kb.out
      have hza : w.heap.size < w1.heap.size := lt_of_cell (a := ⟨w.heap.size, 0, none⟩) Ka.out.1
      have hzb : w.heap.size + 1 < w1.heap.size := lt_of_cell (a := ⟨w.heap.size + 1, 0, none⟩) Kb.out.1
      go_wp2_with fail
      refine (long_any 200 _ _ _ _ _ _ _ _ _ _ _ _ _ Sa.out Sb.out Sb.out).mono ?_
      rw [Hlong.out]
      rintro e w2 ⟨rfl, hb⟩
      clear qa0 qa1 qb0 qb1
      replace Ka : Hid (Cw w2 w.heap.size na A1 la.length ca) := Cw.keep Ka.out hb
      replace Kb : Hid (Cw w2 (w.heap.size + 1) nb A2 lb.length cb) := Cw.keep Kb.out hb
      replace Sa : Hid (Sl w2 A1 la ca) := Sl.below Sa.out hb
      replace Sb : Hid (Sl w2 A2 lb cb) := Sl.below Sb.out hb
      replace B : Hid (Below w.heap.size w w2) := below_mono B.out hb
      clear hb
      obtain ⟨qa0, qa1⟩ := Ka.out
      obtain ⟨qb0, qb1⟩ := Kb.out
      replace hza : w.heap.size < w2.heap.size := lt_of_cell (a := ⟨w.heap.size, 0, none⟩) Ka.out.1
      replace hzb : w.heap.size + 1 < w2.heap.size := lt_of_cell (a := ⟨w.heap.size + 1, 0, none⟩) Kb.out.1
      go_wp2_with fail
      refine (wdivmod_any _ _ _ _ _ _ _ _ _ Sa.out Sb.out).mono ?_
      rw [HD.out]
      rintro e w3 ⟨A3, c3, B3, d3, rfl, hs3, ht3, hb⟩
      clear qa0 qa1 qb0 qb1
      replace Ka : Hid (Cw w3 w.heap.size na A1 la.length ca) := Cw.keep Ka.out hb
      replace Kb : Hid (Cw w3 (w.heap.size + 1) nb A2 lb.length cb) := Cw.keep Kb.out hb
      replace Sa : Hid (Sl w3 A1 la ca) := Sl.below Sa.out hb
      replace Sb : Hid (Sl w3 A2 lb cb) := Sl.below Sb.out hb
      replace B : Hid (Below w.heap.size w w3) := below_mono B.out hb
      clear hb
      have Sq : Hid (Sl w3 A3 lq c3) := hs3
      have Sr : Hid (Sl w3 B3 lr d3) := ht3
      clear hs3 ht3
      (try dsimp only)
      obtain ⟨qa0, qa1⟩ := Ka.out
      obtain ⟨qb0, qb1⟩ := Kb.out
      replace hza : w.heap.size < w3.heap.size := lt_of_cell (a := ⟨w.heap.size, 0, none⟩) Ka.out.1
      replace hzb : w.heap.size + 1 < w3.heap.size := lt_of_cell (a := ⟨w.heap.size + 1, 0, none⟩) Kb.out.1
      clear qa0 qa1 qb0 qb1
      go_wp2_with fail
      refine (rcheck_any _ _ _ _ _ ((Sq.out.alloc _).alloc _)).mono ?_
      rw [HCq.out]
      rintro e w4 ⟨rfl, hb⟩
      replace Ka : Hid (Cw w4 w.heap.size na A1 la.length ca) := Cw.keep (Cw.keep (Cw.keep Ka.out (blw1 _ _)) (blw1 _ _)) hb
      replace Kb : Hid (Cw w4 (w.heap.size + 1) nb A2 lb.length cb) := Cw.keep (Cw.keep (Cw.keep Kb.out (blw1 _ _)) (blw1 _ _)) hb
      have Kq : Hid (Cw w4 w3.heap.size nq A3 lq.length c3) := Cw.keep (Cw.keep (Cw.fresh (by simp) _ _ _ _ _) (blw1 _ _)) hb
      have Kr : Hid (Cw w4 (w3.heap.size + 1) nr B3 lr.length d3) := Cw.keep (Cw.fresh (by simp) _ _ _ _ _) hb
      replace Sa : Hid (Sl w4 A1 la ca) := Sl.below ((Sa.out.alloc _).alloc _) hb
      replace Sb : Hid (Sl w4 A2 lb cb) := Sl.below ((Sb.out.alloc _).alloc _) hb
      replace Sq : Hid (Sl w4 A3 lq c3) := Sl.below ((Sq.out.alloc _).alloc _) hb
      replace Sr : Hid (Sl w4 B3 lr d3) := Sl.below ((Sr.out.alloc _).alloc _) hb
      replace B : Hid (Below w.heap.size w w4) := below_mono (below_mono (below_mono B.out (blw1 _ _)) (blw1 _ _)) hb
      clear hb
      replace hza : w.heap.size < w4.heap.size := lt_of_cell (a := ⟨w.heap.size, 0, none⟩) Ka.out.1
      replace hzb : w.heap.size + 1 < w4.heap.size := lt_of_cell (a := ⟨w.heap.size + 1, 0, none⟩) Kb.out.1
      have hzq : w3.heap.size < w4.heap.size := lt_of_cell (a := ⟨w3.heap.size, 0, none⟩) Kq.out.1
      have hzr : w3.heap.size + 1 < w4.heap.size := lt_of_cell (a := ⟨w3.heap.size + 1, 0, none⟩) Kr.out.1
      obtain ⟨qr0, qr1⟩ := Kr.out
      go_wp2_with fail
      refine (rcheck_any _ _ _ _ _ Sr.out).mono ?_
      rw [HCr.out]
      rintro e w5 ⟨rfl, hb⟩
      clear qr0 qr1
      replace Ka : Hid (Cw w5 w.heap.size na A1 la.length ca) := Cw.keep Ka.out hb
      replace Kb : Hid (Cw w5 (w.heap.size + 1) nb A2 lb.length cb) := Cw.keep Kb.out hb
      replace Kq : Hid (Cw w5 w3.heap.size nq A3 lq.length c3) := Cw.keep Kq.out hb
      replace Kr : Hid (Cw w5 (w3.heap.size + 1) nr B3 lr.length d3) := Cw.keep Kr.out hb
      replace Sa : Hid (Sl w5 A1 la ca) := Sl.below Sa.out hb
      replace Sb : Hid (Sl w5 A2 lb cb) := Sl.below Sb.out hb
      replace Sq : Hid (Sl w5 A3 lq c3) := Sl.below Sq.out hb
      replace Sr : Hid (Sl w5 B3 lr d3) := Sl.below Sr.out hb
      replace B : Hid (Below w.heap.size w w5) := below_mono B.out hb
      clear hb
      replace hza : w.heap.size < w5.heap.size := lt_of_cell (a := ⟨w.heap.size, 0, none⟩) Ka.out.1
      replace hzb : w.heap.size + 1 < w5.heap.size := lt_of_cell (a := ⟨w.heap.size + 1, 0, none⟩) Kb.out.1
      replace hzq : w3.heap.size < w5.heap.size := lt_of_cell (a := ⟨w3.heap.size, 0, none⟩) Kq.out.1
      replace hzr : w3.heap.size + 1 < w5.heap.size := lt_of_cell (a := ⟨w3.heap.size + 1, 0, none⟩) Kr.out.1
      obtain ⟨qq0, qq1⟩ := Kq.out
      obtain ⟨qb0, qb1⟩ := Kb.out
      obtain ⟨qr0, qr1⟩ := Kr.out
      go_wp2_with fail
      refine (rmul_any _ _ _ _ _ _ _ _ _ Sq.out Sb.out).mono ?_
      rw [HM.out]
      rintro e w6 ⟨A6, c6, rfl, hs6, hb⟩
      clear qq0 qq1 qb0 qb1 qr0 qr1
      replace Ka : Hid (Cw w6 w.heap.size na A1 la.length ca) := Cw.keep Ka.out hb
      replace Kb : Hid (Cw w6 (w.heap.size + 1) nb A2 lb.length cb) := Cw.keep Kb.out hb
      replace Kq : Hid (Cw w6 w3.heap.size nq A3 lq.length c3) := Cw.keep Kq.out hb
      replace Kr : Hid (Cw w6 (w3.heap.size + 1) nr B3 lr.length d3) := Cw.keep Kr.out hb
      replace Sa : Hid (Sl w6 A1 la ca) := Sl.below Sa.out hb
      replace Sb : Hid (Sl w6 A2 lb cb) := Sl.below Sb.out hb
      replace Sq : Hid (Sl w6 A3 lq c3) := Sl.below Sq.out hb
      replace Sr : Hid (Sl w6 B3 lr d3) := Sl.below Sr.out hb
      replace B : Hid (Below w.heap.size w w6) := below_mono B.out hb
      clear hb
      have Sp : Hid (Sl w6 A6 lp c6) := hs6
      clear hs6
      (try dsimp only)
      replace hza : w.heap.size < w6.heap.size := lt_of_cell (a := ⟨w.heap.size, 0, none⟩) Ka.out.1
      replace hzb : w.heap.size + 1 < w6.heap.size := lt_of_cell (a := ⟨w.heap.size + 1, 0, none⟩) Kb.out.1
      replace hzq : w3.heap.size < w6.heap.size := lt_of_cell (a := ⟨w3.heap.size, 0, none⟩) Kq.out.1
      replace hzr : w3.heap.size + 1 < w6.heap.size := lt_of_cell (a := ⟨w3.heap.size + 1, 0, none⟩) Kr.out.1
      obtain ⟨qr0, qr1⟩ := Kr.out
      go_wp2_with fail
      refine (radd_any _ _ _ _ _ _ _ _ _ (Sp.out.alloc _) (Sr.out.alloc _)).mono ?_
      rw [HA.out]
      rintro e w7 ⟨A7, c7, rfl, hs7, hb⟩
      clear qr0 qr1
      replace Ka : Hid (Cw w7 w.heap.size na A1 la.length ca) := Cw.keep (Cw.keep Ka.out (blw1 _ _)) hb
      replace Kb : Hid (Cw w7 (w.heap.size + 1) nb A2 lb.length cb) := Cw.keep (Cw.keep Kb.out (blw1 _ _)) hb
      replace Kq : Hid (Cw w7 w3.heap.size nq A3 lq.length c3) := Cw.keep (Cw.keep Kq.out (blw1 _ _)) hb
      replace Kr : Hid (Cw w7 (w3.heap.size + 1) nr B3 lr.length d3) := Cw.keep (Cw.keep Kr.out (blw1 _ _)) hb
      have Kp : Hid (Cw w7 w6.heap.size np A6 lp.length c6) := Cw.keep (Cw.fresh (by simp) _ _ _ _ _) hb
      replace Sa : Hid (Sl w7 A1 la ca) := Sl.below (Sa.out.alloc _) hb
      replace Sb : Hid (Sl w7 A2 lb cb) := Sl.below (Sb.out.alloc _) hb
      replace Sq : Hid (Sl w7 A3 lq c3) := Sl.below (Sq.out.alloc _) hb
      replace Sr : Hid (Sl w7 B3 lr d3) := Sl.below (Sr.out.alloc _) hb
      replace Sp : Hid (Sl w7 A6 lp c6) := Sl.below (Sp.out.alloc _) hb
      replace B : Hid (Below w.heap.size w w7) := below_mono (below_mono B.out (blw1 _ _)) hb
      clear hb
      have Ss : Hid (Sl w7 A7 la c7) := hs7
      clear hs7
      (try dsimp only)
      replace hza : w.heap.size < w7.heap.size := lt_of_cell (a := ⟨w.heap.size, 0, none⟩) Ka.out.1
      replace hzb : w.heap.size + 1 < w7.heap.size := lt_of_cell (a := ⟨w.heap.size + 1, 0, none⟩) Kb.out.1
      replace hzq : w3.heap.size < w7.heap.size := lt_of_cell (a := ⟨w3.heap.size, 0, none⟩) Kq.out.1
      replace hzr : w3.heap.size + 1 < w7.heap.size := lt_of_cell (a := ⟨w3.heap.size + 1, 0, none⟩) Kr.out.1
      have hzp : w6.heap.size < w7.heap.size := lt_of_cell (a := ⟨w6.heap.size, 0, none⟩) Kp.out.1
      obtain ⟨qr0, qr1⟩ := Kr.out
      go_wp2_with fail
      refine (rabs_any _ _ _ _ _ (Sr.out.alloc _)).mono ?_
      rw [HX.out]
      rintro e w8 ⟨A8, c8, rfl, hs8, hb⟩
      clear qr0 qr1
      replace Ka : Hid (Cw w8 w.heap.size na A1 la.length ca) := Cw.keep (Cw.keep Ka.out (blw1 _ _)) hb
      replace Kb : Hid (Cw w8 (w.heap.size + 1) nb A2 lb.length cb) := Cw.keep (Cw.keep Kb.out (blw1 _ _)) hb
      replace Kq : Hid (Cw w8 w3.heap.size nq A3 lq.length c3) := Cw.keep (Cw.keep Kq.out (blw1 _ _)) hb
      replace Kr : Hid (Cw w8 (w3.heap.size + 1) nr B3 lr.length d3) := Cw.keep (Cw.keep Kr.out (blw1 _ _)) hb
      replace Kp : Hid (Cw w8 w6.heap.size np A6 lp.length c6) := Cw.keep (Cw.keep Kp.out (blw1 _ _)) hb
      have Ks : Hid (Cw w8 w7.heap.size na A7 la.length c7) := Cw.keep (Cw.fresh (by simp) _ _ _ _ _) hb
      replace Sa : Hid (Sl w8 A1 la ca) := Sl.below (Sa.out.alloc _) hb
      replace Sb : Hid (Sl w8 A2 lb cb) := Sl.below (Sb.out.alloc _) hb
      replace Sq : Hid (Sl w8 A3 lq c3) := Sl.below (Sq.out.alloc _) hb
      replace Sr : Hid (Sl w8 B3 lr d3) := Sl.below (Sr.out.alloc _) hb
      replace Sp : Hid (Sl w8 A6 lp c6) := Sl.below (Sp.out.alloc _) hb
      replace Ss : Hid (Sl w8 A7 la c7) := Sl.below (Ss.out.alloc _) hb
      replace B : Hid (Below w.heap.size w w8) := below_mono (below_mono B.out (blw1 _ _)) hb
      clear hb
      have Sx : Hid (Sl w8 A8 lx c8) := hs8
      clear hs8
      (try dsimp only)
      replace hza : w.heap.size < w8.heap.size := lt_of_cell (a := ⟨w.heap.size, 0, none⟩) Ka.out.1
      replace hzb : w.heap.size + 1 < w8.heap.size := lt_of_cell (a := ⟨w.heap.size + 1, 0, none⟩) Kb.out.1
      replace hzq : w3.heap.size < w8.heap.size := lt_of_cell (a := ⟨w3.heap.size, 0, none⟩) Kq.out.1
      replace hzr : w3.heap.size + 1 < w8.heap.size := lt_of_cell (a := ⟨w3.heap.size + 1, 0, none⟩) Kr.out.1
      replace hzp : w6.heap.size < w8.heap.size := lt_of_cell (a := ⟨w6.heap.size, 0, none⟩) Kp.out.1
      have hzs : w7.heap.size < w8.heap.size := lt_of_cell (a := ⟨w7.heap.size, 0, none⟩) Ks.out.1
      obtain ⟨qb0, qb1⟩ := Kb.out
      go_wp2_with fail
      refine (rabs_any _ _ _ _ _ (Sb.out.alloc _)).mono ?_
      rw [HY.out]
      rintro e w9 ⟨A9, c9, rfl, hs9, hb⟩
      clear qb0 qb1
      replace Ka : Hid (Cw w9 w.heap.size na A1 la.length ca) := Cw.keep (Cw.keep Ka.out (blw1 _ _)) hb
      replace Kb : Hid (Cw w9 (w.heap.size + 1) nb A2 lb.length cb) := Cw.keep (Cw.keep Kb.out (blw1 _ _)) hb
      replace Kq : Hid (Cw w9 w3.heap.size nq A3 lq.length c3) := Cw.keep (Cw.keep Kq.out (blw1 _ _)) hb
      replace Kr : Hid (Cw w9 (w3.heap.size + 1) nr B3 lr.length d3) := Cw.keep (Cw.keep Kr.out (blw1 _ _)) hb
      replace Kp : Hid (Cw w9 w6.heap.size np A6 lp.length c6) := Cw.keep (Cw.keep Kp.out (blw1 _ _)) hb
      replace Ks : Hid (Cw w9 w7.heap.size na A7 la.length c7) := Cw.keep (Cw.keep Ks.out (blw1 _ _)) hb
      have Kx : Hid (Cw w9 w8.heap.size nx A8 lx.length c8) := Cw.keep (Cw.fresh (by simp) _ _ _ _ _) hb
      replace Sa : Hid (Sl w9 A1 la ca) := Sl.below (Sa.out.alloc _) hb
      replace Sb : Hid (Sl w9 A2 lb cb) := Sl.below (Sb.out.alloc _) hb
      replace Sq : Hid (Sl w9 A3 lq c3) := Sl.below (Sq.out.alloc _) hb
      replace Sr : Hid (Sl w9 B3 lr d3) := Sl.below (Sr.out.alloc _) hb
      replace Sp : Hid (Sl w9 A6 lp c6) := Sl.below (Sp.out.alloc _) hb
      replace Ss : Hid (Sl w9 A7 la c7) := Sl.below (Ss.out.alloc _) hb
      replace Sx : Hid (Sl w9 A8 lx c8) := Sl.below (Sx.out.alloc _) hb
      replace B : Hid (Below w.heap.size w w9) := below_mono (below_mono B.out (blw1 _ _)) hb
      clear hb
      have Sy : Hid (Sl w9 A9 ly c9) := hs9
      clear hs9
      (try dsimp only)
      replace hza : w.heap.size < w9.heap.size := lt_of_cell (a := ⟨w.heap.size, 0, none⟩) Ka.out.1
      replace hzb : w.heap.size + 1 < w9.heap.size := lt_of_cell (a := ⟨w.heap.size + 1, 0, none⟩) Kb.out.1
      replace hzq : w3.heap.size < w9.heap.size := lt_of_cell (a := ⟨w3.heap.size, 0, none⟩) Kq.out.1
      replace hzr : w3.heap.size + 1 < w9.heap.size := lt_of_cell (a := ⟨w3.heap.size + 1, 0, none⟩) Kr.out.1
      replace hzp : w6.heap.size < w9.heap.size := lt_of_cell (a := ⟨w6.heap.size, 0, none⟩) Kp.out.1
      replace hzs : w7.heap.size < w9.heap.size := lt_of_cell (a := ⟨w7.heap.size, 0, none⟩) Ks.out.1
      have hzx : w8.heap.size < w9.heap.size := lt_of_cell (a := ⟨w8.heap.size, 0, none⟩) Kx.out.1
      obtain ⟨qs0, qs1⟩ := Ks.out
      obtain ⟨qa0, qa1⟩ := Ka.out
      go_wp2_with fail
      refine (same_any _ _ _ _ _ _ _ _ _ (Ss.out.alloc _) (Sa.out.alloc _)).mono ?_
      rw [HS.out]
      rintro e w10 ⟨rfl, hb⟩
      clear qs0 qs1 qa0 qa1
      replace Ka : Hid (Cw w10 w.heap.size na A1 la.length ca) := Cw.keep (Cw.keep Ka.out (blw1 _ _)) hb
      replace Kb : Hid (Cw w10 (w.heap.size + 1) nb A2 lb.length cb) := Cw.keep (Cw.keep Kb.out (blw1 _ _)) hb
      replace Kq : Hid (Cw w10 w3.heap.size nq A3 lq.length c3) := Cw.keep (Cw.keep Kq.out (blw1 _ _)) hb
      replace Kr : Hid (Cw w10 (w3.heap.size + 1) nr B3 lr.length d3) := Cw.keep (Cw.keep Kr.out (blw1 _ _)) hb
      replace Kp : Hid (Cw w10 w6.heap.size np A6 lp.length c6) := Cw.keep (Cw.keep Kp.out (blw1 _ _)) hb
      replace Ks : Hid (Cw w10 w7.heap.size na A7 la.length c7) := Cw.keep (Cw.keep Ks.out (blw1 _ _)) hb
      replace Kx : Hid (Cw w10 w8.heap.size nx A8 lx.length c8) := Cw.keep (Cw.keep Kx.out (blw1 _ _)) hb
      have Ky : Hid (Cw w10 w9.heap.size ny A9 ly.length c9) := Cw.keep (Cw.fresh (by simp) _ _ _ _ _) hb
      replace Sa : Hid (Sl w10 A1 la ca) := Sl.below (Sa.out.alloc _) hb
      replace Sb : Hid (Sl w10 A2 lb cb) := Sl.below (Sb.out.alloc _) hb
      replace Sq : Hid (Sl w10 A3 lq c3) := Sl.below (Sq.out.alloc _) hb
      replace Sr : Hid (Sl w10 B3 lr d3) := Sl.below (Sr.out.alloc _) hb
      replace Sp : Hid (Sl w10 A6 lp c6) := Sl.below (Sp.out.alloc _) hb
      replace Ss : Hid (Sl w10 A7 la c7) := Sl.below (Ss.out.alloc _) hb
      replace Sx : Hid (Sl w10 A8 lx c8) := Sl.below (Sx.out.alloc _) hb
      replace Sy : Hid (Sl w10 A9 ly c9) := Sl.below (Sy.out.alloc _) hb
      replace B : Hid (Below w.heap.size w w10) := below_mono (below_mono B.out (blw1 _ _)) hb
      clear hb
      replace hza : w.heap.size < w10.heap.size := lt_of_cell (a := ⟨w.heap.size, 0, none⟩) Ka.out.1
      replace hzb : w.heap.size + 1 < w10.heap.size := lt_of_cell (a := ⟨w.heap.size + 1, 0, none⟩) Kb.out.1
      replace hzq : w3.heap.size < w10.heap.size := lt_of_cell (a := ⟨w3.heap.size, 0, none⟩) Kq.out.1
      replace hzr : w3.heap.size + 1 < w10.heap.size := lt_of_cell (a := ⟨w3.heap.size + 1, 0, none⟩) Kr.out.1
      replace hzp : w6.heap.size < w10.heap.size := lt_of_cell (a := ⟨w6.heap.size, 0, none⟩) Kp.out.1
      replace hzs : w7.heap.size < w10.heap.size := lt_of_cell (a := ⟨w7.heap.size, 0, none⟩) Ks.out.1
      replace hzx : w8.heap.size < w10.heap.size := lt_of_cell (a := ⟨w8.heap.size, 0, none⟩) Kx.out.1
      have hzy : w9.heap.size < w10.heap.size := lt_of_cell (a := ⟨w9.heap.size, 0, none⟩) Ky.out.1
      obtain ⟨qx0, qx1⟩ := Kx.out
      obtain ⟨qy0, qy1⟩ := Ky.out
      go_wp2_with fail
      refine (rcompared_any _ _ _ _ _ _ _ _ _ Sx.out Sy.out).mono ?_
      rw [HCmp.out]
      rintro e w11 ⟨rfl, hb⟩
      clear qx0 qx1 qy0 qy1
      replace Ka : Hid (Cw w11 w.heap.size na A1 la.length ca) := Cw.keep Ka.out hb
      replace Kb : Hid (Cw w11 (w.heap.size + 1) nb A2 lb.length cb) := Cw.keep Kb.out hb
      replace Kq : Hid (Cw w11 w3.heap.size nq A3 lq.length c3) := Cw.keep Kq.out hb
      replace Kr : Hid (Cw w11 (w3.heap.size + 1) nr B3 lr.length d3) := Cw.keep Kr.out hb
      replace Kp : Hid (Cw w11 w6.heap.size np A6 lp.length c6) := Cw.keep Kp.out hb
      replace Ks : Hid (Cw w11 w7.heap.size na A7 la.length c7) := Cw.keep Ks.out hb
      replace Kx : Hid (Cw w11 w8.heap.size nx A8 lx.length c8) := Cw.keep Kx.out hb
      replace Ky : Hid (Cw w11 w9.heap.size ny A9 ly.length c9) := Cw.keep Ky.out hb
      replace Sa : Hid (Sl w11 A1 la ca) := Sl.below Sa.out hb
      replace Sb : Hid (Sl w11 A2 lb cb) := Sl.below Sb.out hb
      replace Sq : Hid (Sl w11 A3 lq c3) := Sl.below Sq.out hb
      replace Sr : Hid (Sl w11 B3 lr d3) := Sl.below Sr.out hb
      replace Sp : Hid (Sl w11 A6 lp c6) := Sl.below Sp.out hb
      replace Ss : Hid (Sl w11 A7 la c7) := Sl.below Ss.out hb
      replace Sx : Hid (Sl w11 A8 lx c8) := Sl.below Sx.out hb
      replace Sy : Hid (Sl w11 A9 ly c9) := Sl.below Sy.out hb
      replace B : Hid (Below w.heap.size w w11) := below_mono B.out hb
      clear hb
      replace hza : w.heap.size < w11.heap.size := lt_of_cell (a := ⟨w.heap.size, 0, none⟩) Ka.out.1
      replace hzb : w.heap.size + 1 < w11.heap.size := lt_of_cell (a := ⟨w.heap.size + 1, 0, none⟩) Kb.out.1
      replace hzq : w3.heap.size < w11.heap.size := lt_of_cell (a := ⟨w3.heap.size, 0, none⟩) Kq.out.1
      replace hzr : w3.heap.size + 1 < w11.heap.size := lt_of_cell (a := ⟨w3.heap.size + 1, 0, none⟩) Kr.out.1
      replace hzp : w6.heap.size < w11.heap.size := lt_of_cell (a := ⟨w6.heap.size, 0, none⟩) Kp.out.1
      replace hzs : w7.heap.size < w11.heap.size := lt_of_cell (a := ⟨w7.heap.size, 0, none⟩) Ks.out.1
      replace hzx : w8.heap.size < w11.heap.size := lt_of_cell (a := ⟨w8.heap.size, 0, none⟩) Kx.out.1
      replace hzy : w9.heap.size < w11.heap.size := lt_of_cell (a := ⟨w9.heap.size, 0, none⟩) Ky.out.1
      obtain ⟨qr0, qr1⟩ := Kr.out
      obtain ⟨qb0, qb1⟩ := Kb.out
      rcases Hrn.out with hr0 | hrb
      · go_wp2
        go_ret
        exact ⟨rfl, B.out⟩
      · have hrb2 : (nr == nb) = true := by rw [hrb]; simp
        go_wp2
        all_goals (go_ret; exact ⟨rfl, B.out⟩)

end Go.Proofs.YtejapkdhbpngbaaDoor

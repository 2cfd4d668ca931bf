/- Walk: the reference's Decimal. -/
import Derived.Test.YtmelbahbjdogdaaGreatDoorF17
import Derived.Test.YtmelbahbjdogdaaGreatDoorFMathC
import Derived.Test.YtmelbahbjdogdaaGreatDoorF30
import Derived.Test.YtmelbahbjdogdaaGreatDoorF10
import Derived.Test.YtmelbahbjdogdaaGreatDoorW49
import Derived.Deep.RegionHeld3
import Derived.Deep.CutRange
namespace Go.Proofs.YtmelbahbjdogdaaGreatDoor
open Go.RowKit Go.Lib
attribute [local go_sem ↓] Go.wp_at_zero Go.wp_at_succ
theorem padS_step {m : List UInt8} {k : Nat} (h : m.length ≤ k) : padS (48 :: m) (k + 1) = padS m (k + 1) := by
  unfold padS
  rw [List.length_cons, show k + 1 - m.length = (k + 1 - (m.length + 1)) + 1 by omega, List.replicate_succ', List.append_assoc]
  rfl

theorem cat_one (l : List UInt8) : (ByteArray.mk #[48]) ++ (ByteArray.mk l.toArray) = ⟨(48 :: l).toArray⟩ := cat_eq [48] l

set_option maxRecDepth 100000 in
set_option maxHeartbeats 2000000 in
theorem rfdec_bad (n1 n2 : Bool) (A1 A2 : Option Addr) (l1 l2 : List Nat) (c1 c2 : Nat) (k : Int) (hb : badF n1 l1 n2 l2 = true) (w : World) (hs1 : Sl w A1 l1 c1) (hs2 : Sl w A2 l2 c2) :
    Calls Tryz.prog 15 #[.agg #[.bool n1, .slice A1 l1.length c1, .bool n2, .slice A2 l2.length c2], .int .i64 k] w (TRes ([], 8) w) := by
  have S1 := Lib.hid hs1
  have S2 := Lib.hid hs2
  have B : Hid (Below w.heap.size w w) := Below.refl _ _
  have e1 : Hid (chkF n1 l1 n2 l2 = 8) := by unfold chkF; rw [hb]; rfl
  clear hs1 hs2 hb
  go_enter Tryz.func15, Tryz.ntmps15
  go_wp2_with fail
  refine (rfcheck_any n1 n2 A1 A2 l1 l2 c1 c2 _ (S1.out.alloc _) (S2.out.alloc _)).mono ?_
  rw [e1.out]
  rintro e w1 ⟨rfl, hb⟩
  replace S1 := kS1 S1 hb
  replace S2 := kS1 S2 hb
  have Ka : Hid (Cf w1 w.heap.size n1 A1 l1.length c1 n2 A2 l2.length c2) := Cf.keep (Cf.fresh (by simp) _ _ _ _ _ _ _ _ _) hb
  replace B := kB1 B hb
  clear hb
  obtain ⟨qa0, qa1, qa2, qa3⟩ := Ka.out
  have hza := lF Ka
  go_wp2_with fail
  refine (rfcheck_any n1 n2 A1 A2 l1 l2 c1 c2 _ S1.out S2.out).mono ?_
  rw [e1.out]
  rintro e w2 ⟨rfl, hb⟩
  clear qa0 qa1 qa2 qa3
  replace S1 := kS S1 hb
  replace S2 := kS S2 hb
  replace Ka := kF Ka hb
  replace B := kB B hb
  clear hb
  obtain ⟨qa0, qa1, qa2, qa3⟩ := Ka.out
  replace hza := lF Ka
  go_wp2
  go_ret2
  exact ⟨rfl, B.out⟩

set_option maxRecDepth 100000 in
set_option maxHeartbeats 2000000 in
theorem rfdec_arg (n1 n2 : Bool) (A1 A2 : Option Addr) (l1 l2 : List Nat) (c1 c2 : Nat) (k : Int) (hb : badF n1 l1 n2 l2 = false) (hk : k < 0 ∨ 50 < k) (w : World) (hs1 : Sl w A1 l1 c1) (hs2 : Sl w A2 l2 c2) :
    Calls Tryz.prog 15 #[.agg #[.bool n1, .slice A1 l1.length c1, .bool n2, .slice A2 l2.length c2], .int .i64 k] w (TRes ([], 2) w) := by
  have S1 := Lib.hid hs1
  have S2 := Lib.hid hs2
  have B : Hid (Below w.heap.size w w) := Below.refl _ _
  have e1 : Hid (chkF n1 l1 n2 l2 = 0) := by unfold chkF; rw [hb]; rfl
  clear hs1 hs2 hb
  by_cases h1 : k < 0
  · have d1 : decide (k < 0) = true := decide_eq_true h1
    go_enter Tryz.func15, Tryz.ntmps15
    go_wp2_with fail
    refine (rfcheck_any n1 n2 A1 A2 l1 l2 c1 c2 _ (S1.out.alloc _) (S2.out.alloc _)).mono ?_
    rw [e1.out]
    rintro e w1 ⟨rfl, hb⟩
    replace S1 := kS1 S1 hb
    replace S2 := kS1 S2 hb
    have Ka : Hid (Cf w1 w.heap.size n1 A1 l1.length c1 n2 A2 l2.length c2) := Cf.keep (Cf.fresh (by simp) _ _ _ _ _ _ _ _ _) hb
    replace B := kB1 B hb
    clear hb
    obtain ⟨qa0, qa1, qa2, qa3⟩ := Ka.out
    have hza := lF Ka
    go_wp2
    go_ret2
    exact ⟨rfl, B.out⟩
  · have d1 : decide (k < 0) = false := decide_eq_false h1
    have d2 : decide (50 < k) = true := decide_eq_true (by omega)
    go_enter Tryz.func15, Tryz.ntmps15
    go_wp2_with fail
    refine (rfcheck_any n1 n2 A1 A2 l1 l2 c1 c2 _ (S1.out.alloc _) (S2.out.alloc _)).mono ?_
    rw [e1.out]
    rintro e w1 ⟨rfl, hb⟩
    replace S1 := kS1 S1 hb
    replace S2 := kS1 S2 hb
    have Ka : Hid (Cf w1 w.heap.size n1 A1 l1.length c1 n2 A2 l2.length c2) := Cf.keep (Cf.fresh (by simp) _ _ _ _ _ _ _ _ _) hb
    replace B := kB1 B hb
    clear hb
    obtain ⟨qa0, qa1, qa2, qa3⟩ := Ka.out
    have hza := lF Ka
    go_wp2
    go_ret2
    exact ⟨rfl, B.out⟩

set_option maxRecDepth 100000 in
set_option maxHeartbeats 2000000 in
theorem rfdec_good (n1 n2 : Bool) (A1 A2 : Option Addr) (l1 l2 : List Nat) (c1 c2 : Nat) (x y : Int) (va : VF n1 l1 n2 l2 x y) (hl1 : l1.length ≤ 1000) (kn : Nat) (hk : kn ≤ 50) (w : World) (hs1 : Sl w A1 l1 c1) (hs2 : Sl w A2 l2 c2) :
    Calls Tryz.prog 15 #[.agg #[.bool n1, .slice A1 l1.length c1, .bool n2, .slice A2 l2.length c2], .int .i64 (kn : Int)] w (TRes (decTxt (rndS (x * 10 ^ kn) y) kn, 0) w) := by
  have S1 := Lib.hid hs1
  have S2 := Lib.hid hs2
  have B : Hid (Below w.heap.size w w) := Below.refl _ _
  have e1 : Hid (chkF n1 l1 n2 l2 = 0) := va.chk
  have d1 : decide ((kn : Int) < 0) = false := decide_eq_false (by omega)
  have d2 : decide ((50 : Int) < (kn : Int)) = false := decide_eq_false (by omega)
  obtain ⟨X, hX⟩ : ∃ X, X = x * 10 ^ kn := ⟨_, rfl⟩
  have fX : fitZ X := dec_fit va.num hl1 hk hX
  obtain ⟨⟨nt, lt⟩, hvt⟩ : ∃ p, p = p10 kn := ⟨_, rfl⟩
  have vt : VZ nt lt ((10 : Int) ^ kn) := vz_mk hvt (fit_pow10 (by omega))
  obtain ⟨⟨no, lo⟩, hvo⟩ : ∃ p, p = wOf (1 : Int) := ⟨_, rfl⟩
  have vo : VZ no lo 1 := vz_mk hvo fit_one
  obtain ⟨⟨⟨na, la⟩, ⟨nb, lb⟩⟩, hred⟩ : ∃ p, p = redZ X y := ⟨_, rfl⟩
  obtain ⟨a, b, vr, -, hr1, hr2⟩ := red_vf (x := X) (y := y) (by have := va.pos; omega) fX va.den.2
  rw [← hred] at vr
  obtain ⟨z, hz⟩ : ∃ z, z = rndS X y := ⟨_, rfl⟩
  have hz2 : z = roundZ a b := by rw [hz, rndS, ← hred, vr.num.zv_eq, vr.den.zv_eq]
  have fz : fitZ z := by rw [hz2]; exact round_fit vr.pos vr.num.2
  obtain ⟨⟨nz, lz⟩, hvz⟩ : ∃ p, p = wOf z := ⟨_, rfl⟩
  have vz : VZ nz lz z := vz_mk hvz fz
  have e3 : Hid (froundS na la nb lb = ((nz, lz), 0)) := by rw [Hid, froundS, vr.good, if_neg (by simp), vr.num.zv_eq, vr.den.zv_eq, ← hz2, hvz]
  obtain ⟨⟨nv, lv⟩, hvv⟩ : ∃ p, p = wOf (z.natAbs : Int) := ⟨_, rfl⟩
  have vv : VZ nv lv (z.natAbs : Int) := vz_mk hvv (fit_mono (by simp) fz)
  have e4 : Hid (absS nz lz = ((nv, lv), 0)) := by rw [Hid, absS_z vz, hvv]
  have hnv : nv = false := by rw [vv.neg_eq]; exact decide_eq_false (by omega)
  obtain ⟨T, hT⟩ : ∃ T, T = textZ false z.natAbs := ⟨_, rfl⟩
  have e5 : Hid (textS nv lv = (T, 0)) := by rw [Hid, textS, vv.good, if_neg (by simp), vv.val_eq, hnv, Int.natAbs_natCast, hT]
  have hTl : T.length ≤ 50000 := by rw [hT]; exact dec_len fz
  obtain ⟨sg, hsg⟩ : ∃ sg : List UInt8, sg = if nz = true then [45] else [] := ⟨_, rfl⟩
  have hpost : decTxt z kn = sg ++ dotS (padS T (kn + 1)) kn := by rw [decTxt, hsg, hT, vz.neg_eq]; simp only [decide_eq_true_eq]
  rw [← hX, ← hz, hpost]
  have Hsg := Lib.hid hsg
  have hsl : sg.length ≤ 1 := by rw [hsg]; split <;> simp
  have hTen : Hid (∀ W, Calls Tryz.prog 60 #[.int .i64 (kn : Int)] W (WRes1 (nt, lt) W)) := fun W => by rw [hvt]; exact rten_any kn (by omega) W
  have hOne : Hid (∀ W, Calls Tryz.prog 30 #[.int .i64 1] W (WRes1 (no, lo) W)) := fun W => by rw [hvo]; exact rfrom_any 1 W (by omega) (by omega)
  have hPro : Hid (∀ W A B C D c d e f, Sl W A l1 c → Sl W B lt d → Sl W C l2 e → Sl W D lo f → Calls Tryz.prog 69 #[.agg #[.bool n1, .slice A l1.length c], .agg #[.bool nt, .slice B lt.length d], .agg #[.bool n2, .slice C l2.length e], .agg #[.bool no, .slice D lo.length f]] W (FRes (((na, la), (nb, lb)), 0) W)) := fun W A B C D c d e f q1 q2 q3 q4 => by
    have h := rproduct_any n1 nt n2 no A B C D l1 lt l2 lo c d e f x (10 ^ kn) y 1 va.num vt va.den vo (by have := va.pos; omega) W q1 q2 q3 q4
    rw [← hX, Int.mul_one, fitB_iff.2 fX, fitB_iff.2 va.den.2] at h
    rw [hred]
    exact h
  have hRnd : Hid (∀ W A B c d, Sl W A la c → Sl W B lb d → Calls Tryz.prog 70 #[.agg #[.bool na, .slice A la.length c, .bool nb, .slice B lb.length d]] W (WRes ((nz, lz), 0) W)) := fun W A B c d h1 h2 => by rw [← e3.out]; exact rroundF_any na nb A B la lb c d W h1 h2
  clear hsg hs1 hs2 va hl1 fX vt hred vr hr1 hr2 hz2 fz hvz vz hvv vv hnv hT hpost hvt hX hz vo hvo
  go_enter Tryz.func15, Tryz.ntmps15
  go_wp2_with fail
  refine (rfcheck_any n1 n2 A1 A2 l1 l2 c1 c2 _ (S1.out.alloc _) (S2.out.alloc _)).mono ?_
  rw [e1.out]
  rintro e w1 ⟨rfl, hb⟩
  replace S1 := kS1 S1 hb
  replace S2 := kS1 S2 hb
  have Ka : Hid (Cf w1 w.heap.size n1 A1 l1.length c1 n2 A2 l2.length c2) := Cf.keep (Cf.fresh (by simp) _ _ _ _ _ _ _ _ _) hb
  replace B := kB1 B hb
  clear hb
  obtain ⟨qa0, qa1, qa2, qa3⟩ := Ka.out
  have hza := lF Ka
  go_upto_region 5 with fail
  clear qa0 qa1 qa2 qa3
  go_cut [6, 7] from 23 to 33 (fun s6 s7 wx => ∃ (gm : Nat) (A5 : Option Addr) (c5 : Nat) (A6 : Option Addr) (c6 : Nat), s6 = .pointer (some ⟨gm, 0, none⟩) ∧ s7 = .int .i64 0 ∧ w1.heap.size ≤ gm ∧ Cf wx gm na A5 la.length c5 nb A6 lb.length c6 ∧ Sl wx A5 la c5 ∧ Sl wx A6 lb c6 ∧ Below w1.heap.size w1 wx)
  case first =>
    have K0 : Hid (Cf w1.drew w.heap.size n1 A1 l1.length c1 n2 A2 l2.length c2) := Ka.out
    have L1_0 : Hid (Sl w1.drew A1 l1 c1) := Sl.drew S1.out
    have L2_0 : Hid (Sl w1.drew A2 l2 c2) := Sl.drew S2.out
    have Y0 : Hid (Below w1.heap.size w1 w1.drew) := (Below.refl _ _).drew
    have J0 : Hid (w1.drew.cell? ⟨w.heap.size, 0, none⟩ = some (.bool n1) ∧ w1.drew.cell? ⟨w.heap.size, 1, none⟩ = some (.slice A1 l1.length c1) ∧ w1.drew.cell? ⟨w.heap.size, 2, none⟩ = some (.bool n2) ∧ w1.drew.cell? ⟨w.heap.size, 3, none⟩ = some (.slice A2 l2.length c2)) := ⟨K0.out.1, K0.out.2.1, K0.out.2.2.1, K0.out.2.2.2⟩
    have J0a : Hid ((w1.alloc (.cells #[.bool false, .slice none 0 0, .bool false, .slice none 0 0] 26)).drew.cell? ⟨w.heap.size, 0, none⟩ = some (.bool n1) ∧ (w1.alloc (.cells #[.bool false, .slice none 0 0, .bool false, .slice none 0 0] 26)).drew.cell? ⟨w.heap.size, 1, none⟩ = some (.slice A1 l1.length c1) ∧ (w1.alloc (.cells #[.bool false, .slice none 0 0, .bool false, .slice none 0 0] 26)).drew.cell? ⟨w.heap.size, 2, none⟩ = some (.bool n2) ∧ (w1.alloc (.cells #[.bool false, .slice none 0 0, .bool false, .slice none 0 0] 26)).drew.cell? ⟨w.heap.size, 3, none⟩ = some (.slice A2 l2.length c2)) := keep4 (blw1 w1.drew (.cells #[.bool false, .slice none 0 0, .bool false, .slice none 0 0] 26)) J0.out
    go_region_held3 (fun w' => w'.cell? ⟨w.heap.size, 0, none⟩ = some (.bool n1) ∧ w'.cell? ⟨w.heap.size, 1, none⟩ = some (.slice A1 l1.length c1) ∧ w'.cell? ⟨w.heap.size, 2, none⟩ = some (.bool n2) ∧ w'.cell? ⟨w.heap.size, 3, none⟩ = some (.slice A2 l2.length c2))
      (first | with_reducible exact J3.out | with_reducible exact J2.out | with_reducible exact J1.out | with_reducible exact J0.out | with_reducible exact J0a.out | with_reducible exact keep4 (blw1 _ _) J3.out | with_reducible exact keep4 (blw1 _ _) J2.out | with_reducible exact keep4 (blw1 _ _) J1.out | with_reducible exact keep4 (blw1 _ _) J0.out | ((with_reducible refine farF4 J3.out ?_ _ _ _ _); omega))
      (first
        | (go_at_call 60; first | ((with_reducible refine (hTen.out w1.drew).mono ?_); rintro e v1 ⟨A3, c3, rfl, hs3, hb⟩; (try dsimp only at hs3); (try dsimp only); have LR1_1 : Hid (Sl v1 A3 lt c3) := hs3; have L1_1 : Hid (Sl v1 A1 l1 c1) := Sl.below (L1_0.out) hb; have L2_1 : Hid (Sl v1 A2 l2 c2) := Sl.below (L2_0.out) hb; have K1 : Hid (Cf v1 w.heap.size n1 A1 l1.length c1 n2 A2 l2.length c2) := Cf.keep K0.out hb; have Y1 : Hid (Below w1.heap.size w1 v1) := below_mono Y0.out hb; have J1 : Hid (v1.cell? ⟨w.heap.size, 0, none⟩ = some (.bool n1) ∧ v1.cell? ⟨w.heap.size, 1, none⟩ = some (.slice A1 l1.length c1) ∧ v1.cell? ⟨w.heap.size, 2, none⟩ = some (.bool n2) ∧ v1.cell? ⟨w.heap.size, 3, none⟩ = some (.slice A2 l2.length c2)) := ⟨K1.out.1, K1.out.2.1, K1.out.2.2.1, K1.out.2.2.2⟩; have hlt1 : w.heap.size < v1.heap.size := lt_of_cell (a := ⟨w.heap.size, 0, none⟩) K1.out.1; clear hb hs3) | ((with_reducible refine (hTen.out ((w1.alloc (.cells #[.bool false, .slice none 0 0, .bool false, .slice none 0 0] 26)).drew)).mono ?_); rintro e v1 ⟨A3, c3, rfl, hs3, hb⟩; (try dsimp only at hs3); (try dsimp only); have LR1_1 : Hid (Sl v1 A3 lt c3) := hs3; have L1_1 : Hid (Sl v1 A1 l1 c1) := Sl.below (L1_0.out.alloc (.cells #[.bool false, .slice none 0 0, .bool false, .slice none 0 0] 26)) hb; have L2_1 : Hid (Sl v1 A2 l2 c2) := Sl.below (L2_0.out.alloc (.cells #[.bool false, .slice none 0 0, .bool false, .slice none 0 0] 26)) hb; have K1 : Hid (Cf v1 w.heap.size n1 A1 l1.length c1 n2 A2 l2.length c2) := Cf.keep (Cf.keep K0.out (blw1 _ (.cells #[.bool false, .slice none 0 0, .bool false, .slice none 0 0] 26))) hb; have Y1 : Hid (Below w1.heap.size w1 v1) := below_mono (below_mono Y0.out (blw1 _ (.cells #[.bool false, .slice none 0 0, .bool false, .slice none 0 0] 26))) hb; have M1 : Hid (Cf v1 w1.heap.size false none 0 0 false none 0 0) := Cf.keep (Cf.fresh (w := w1.drew) (g := w1.heap.size) rfl false none 0 0 false none 0 0 26) hb; have F1 : Hid (Ff v1 w1.heap.size) := Ff.keep (Ff.fresh (w := w1.drew) (g := w1.heap.size) rfl _ 26) (Cf.fresh (w := w1.drew) (g := w1.heap.size) rfl false none 0 0 false none 0 0 26) hb; obtain ⟨m0_1, m1_1, m2_1, m3_1⟩ := M1.out; obtain ⟨f0_1, f1_1, f2_1, f3_1⟩ := F1.out; have hm : w1.heap.size < v1.heap.size := lt_of_cell (a := ⟨w1.heap.size, 0, none⟩) M1.out.1; have hmx : w1.heap.size ≤ w1.heap.size := Nat.le_refl _; have J1 : Hid (v1.cell? ⟨w.heap.size, 0, none⟩ = some (.bool n1) ∧ v1.cell? ⟨w.heap.size, 1, none⟩ = some (.slice A1 l1.length c1) ∧ v1.cell? ⟨w.heap.size, 2, none⟩ = some (.bool n2) ∧ v1.cell? ⟨w.heap.size, 3, none⟩ = some (.slice A2 l2.length c2)) := ⟨K1.out.1, K1.out.2.1, K1.out.2.2.1, K1.out.2.2.2⟩; have hlt1 : w.heap.size < v1.heap.size := lt_of_cell (a := ⟨w.heap.size, 0, none⟩) K1.out.1; clear hb hs3))
        | (go_at_call 30; first | ((with_reducible refine (hOne.out v1).mono ?_); rintro e v2 ⟨A4, c4, rfl, hs4, hb⟩; (try dsimp only at hs4); (try dsimp only); have LQ1_2 : Hid (Sl v2 A4 lo c4) := hs4; have L1_2 : Hid (Sl v2 A1 l1 c1) := Sl.below (L1_1.out) hb; have L2_2 : Hid (Sl v2 A2 l2 c2) := Sl.below (L2_1.out) hb; have LR1_2 : Hid (Sl v2 A3 lt c3) := Sl.below (LR1_1.out) hb; have K2 : Hid (Cf v2 w.heap.size n1 A1 l1.length c1 n2 A2 l2.length c2) := Cf.keep K1.out hb; have Y2 : Hid (Below w1.heap.size w1 v2) := below_mono Y1.out hb; (try (have M2 := Lib.hid (M1.out.keep hb); have F2 := Lib.hid (Ff.keep F1.out M1.out hb); obtain ⟨m0_2, m1_2, m2_2, m3_2⟩ := M2.out; obtain ⟨f0_2, f1_2, f2_2, f3_2⟩ := F2.out)); have J2 : Hid (v2.cell? ⟨w.heap.size, 0, none⟩ = some (.bool n1) ∧ v2.cell? ⟨w.heap.size, 1, none⟩ = some (.slice A1 l1.length c1) ∧ v2.cell? ⟨w.heap.size, 2, none⟩ = some (.bool n2) ∧ v2.cell? ⟨w.heap.size, 3, none⟩ = some (.slice A2 l2.length c2)) := ⟨K2.out.1, K2.out.2.1, K2.out.2.2.1, K2.out.2.2.2⟩; have hlt2 : w.heap.size < v2.heap.size := lt_of_cell (a := ⟨w.heap.size, 0, none⟩) K2.out.1; clear hb hs4) | ((with_reducible refine (hOne.out (v1.alloc (.cells #[.bool false, .slice none 0 0, .bool false, .slice none 0 0] 26))).mono ?_); rintro e v2 ⟨A4, c4, rfl, hs4, hb⟩; (try dsimp only at hs4); (try dsimp only); have LQ1_2 : Hid (Sl v2 A4 lo c4) := hs4; have L1_2 : Hid (Sl v2 A1 l1 c1) := Sl.below (L1_1.out.alloc (.cells #[.bool false, .slice none 0 0, .bool false, .slice none 0 0] 26)) hb; have L2_2 : Hid (Sl v2 A2 l2 c2) := Sl.below (L2_1.out.alloc (.cells #[.bool false, .slice none 0 0, .bool false, .slice none 0 0] 26)) hb; have LR1_2 : Hid (Sl v2 A3 lt c3) := Sl.below (LR1_1.out.alloc (.cells #[.bool false, .slice none 0 0, .bool false, .slice none 0 0] 26)) hb; have K2 : Hid (Cf v2 w.heap.size n1 A1 l1.length c1 n2 A2 l2.length c2) := Cf.keep (Cf.keep K1.out (blw1 _ (.cells #[.bool false, .slice none 0 0, .bool false, .slice none 0 0] 26))) hb; have Y2 : Hid (Below w1.heap.size w1 v2) := below_mono (below_mono Y1.out (blw1 _ (.cells #[.bool false, .slice none 0 0, .bool false, .slice none 0 0] 26))) hb; have M2 : Hid (Cf v2 v1.heap.size false none 0 0 false none 0 0) := Cf.keep (Cf.fresh (w := v1) (g := v1.heap.size) rfl false none 0 0 false none 0 0 26) hb; have F2 : Hid (Ff v2 v1.heap.size) := Ff.keep (Ff.fresh (w := v1) (g := v1.heap.size) rfl _ 26) (Cf.fresh (w := v1) (g := v1.heap.size) rfl false none 0 0 false none 0 0 26) hb; obtain ⟨m0_2, m1_2, m2_2, m3_2⟩ := M2.out; obtain ⟨f0_2, f1_2, f2_2, f3_2⟩ := F2.out; have hm : v1.heap.size < v2.heap.size := lt_of_cell (a := ⟨v1.heap.size, 0, none⟩) M2.out.1; have hmx : w1.heap.size ≤ v1.heap.size := Y1.out.size; have J2 : Hid (v2.cell? ⟨w.heap.size, 0, none⟩ = some (.bool n1) ∧ v2.cell? ⟨w.heap.size, 1, none⟩ = some (.slice A1 l1.length c1) ∧ v2.cell? ⟨w.heap.size, 2, none⟩ = some (.bool n2) ∧ v2.cell? ⟨w.heap.size, 3, none⟩ = some (.slice A2 l2.length c2)) := ⟨K2.out.1, K2.out.2.1, K2.out.2.2.1, K2.out.2.2.2⟩; have hlt2 : w.heap.size < v2.heap.size := lt_of_cell (a := ⟨w.heap.size, 0, none⟩) K2.out.1; clear hb hs4))
        | (go_at_call 69; first | ((with_reducible refine (hPro.out v2 _ _ _ _ _ _ _ _ (L1_2.out) (LR1_2.out) (L2_2.out) (LQ1_2.out)).mono ?_); rintro e v3 ⟨A5, c5, A6, c6, rfl, hs5, hs6, hb⟩; (try dsimp only at hs5); (try dsimp only at hs6); (try dsimp only); have LR4_3 : Hid (Sl v3 A5 la c5) := hs5; have LQ4_3 : Hid (Sl v3 A6 lb c6) := hs6; have K3 : Hid (Cf v3 w.heap.size n1 A1 l1.length c1 n2 A2 l2.length c2) := Cf.keep K2.out hb; have Y3 : Hid (Below w1.heap.size w1 v3) := below_mono Y2.out hb; (try (have M3 := Lib.hid (M2.out.keep hb); have F3 := Lib.hid (Ff.keep F2.out M2.out hb); obtain ⟨m0_3, m1_3, m2_3, m3_3⟩ := M3.out; obtain ⟨f0_3, f1_3, f2_3, f3_3⟩ := F3.out)); have J3 : Hid (v3.cell? ⟨w.heap.size, 0, none⟩ = some (.bool n1) ∧ v3.cell? ⟨w.heap.size, 1, none⟩ = some (.slice A1 l1.length c1) ∧ v3.cell? ⟨w.heap.size, 2, none⟩ = some (.bool n2) ∧ v3.cell? ⟨w.heap.size, 3, none⟩ = some (.slice A2 l2.length c2)) := ⟨K3.out.1, K3.out.2.1, K3.out.2.2.1, K3.out.2.2.2⟩; have hlt3 : w.heap.size < v3.heap.size := lt_of_cell (a := ⟨w.heap.size, 0, none⟩) K3.out.1; clear hb hs5 hs6) | ((with_reducible refine (hPro.out (v2.alloc (.cells #[.bool false, .slice none 0 0, .bool false, .slice none 0 0] 26)) _ _ _ _ _ _ _ _ (L1_2.out.alloc (.cells #[.bool false, .slice none 0 0, .bool false, .slice none 0 0] 26)) (LR1_2.out.alloc (.cells #[.bool false, .slice none 0 0, .bool false, .slice none 0 0] 26)) (L2_2.out.alloc (.cells #[.bool false, .slice none 0 0, .bool false, .slice none 0 0] 26)) (LQ1_2.out.alloc (.cells #[.bool false, .slice none 0 0, .bool false, .slice none 0 0] 26))).mono ?_); rintro e v3 ⟨A5, c5, A6, c6, rfl, hs5, hs6, hb⟩; (try dsimp only at hs5); (try dsimp only at hs6); (try dsimp only); have LR4_3 : Hid (Sl v3 A5 la c5) := hs5; have LQ4_3 : Hid (Sl v3 A6 lb c6) := hs6; have K3 : Hid (Cf v3 w.heap.size n1 A1 l1.length c1 n2 A2 l2.length c2) := Cf.keep (Cf.keep K2.out (blw1 _ (.cells #[.bool false, .slice none 0 0, .bool false, .slice none 0 0] 26))) hb; have Y3 : Hid (Below w1.heap.size w1 v3) := below_mono (below_mono Y2.out (blw1 _ (.cells #[.bool false, .slice none 0 0, .bool false, .slice none 0 0] 26))) hb; have M3 : Hid (Cf v3 v2.heap.size false none 0 0 false none 0 0) := Cf.keep (Cf.fresh (w := v2) (g := v2.heap.size) rfl false none 0 0 false none 0 0 26) hb; have F3 : Hid (Ff v3 v2.heap.size) := Ff.keep (Ff.fresh (w := v2) (g := v2.heap.size) rfl _ 26) (Cf.fresh (w := v2) (g := v2.heap.size) rfl false none 0 0 false none 0 0 26) hb; obtain ⟨m0_3, m1_3, m2_3, m3_3⟩ := M3.out; obtain ⟨f0_3, f1_3, f2_3, f3_3⟩ := F3.out; have hm : v2.heap.size < v3.heap.size := lt_of_cell (a := ⟨v2.heap.size, 0, none⟩) M3.out.1; have hmx : w1.heap.size ≤ v2.heap.size := Y2.out.size; have J3 : Hid (v3.cell? ⟨w.heap.size, 0, none⟩ = some (.bool n1) ∧ v3.cell? ⟨w.heap.size, 1, none⟩ = some (.slice A1 l1.length c1) ∧ v3.cell? ⟨w.heap.size, 2, none⟩ = some (.bool n2) ∧ v3.cell? ⟨w.heap.size, 3, none⟩ = some (.slice A2 l2.length c2)) := ⟨K3.out.1, K3.out.2.1, K3.out.2.2.1, K3.out.2.2.2⟩; have hlt3 : w.heap.size < v3.heap.size := lt_of_cell (a := ⟨w.heap.size, 0, none⟩) K3.out.1; clear hb hs5 hs6)))
    all_goals
      go_wp2_with fail
      go_meet
      first
        | with_reducible exact ⟨v3.heap.size, A5, c5, A6, c6, rfl, rfl, Y3.out.size, Cf.fresh rfl _ _ _ _ _ _ _ _ _, LR4_3.out.alloc _, LQ4_3.out.alloc _, below_mono Y3.out (blw1 _ _)⟩
        | with_reducible exact ⟨v2.heap.size, A5, c5, A6, c6, rfl, rfl, hmx, Cf.newF M3.out, LR4_3.out.setF M3.out _ _ _ _, LQ4_3.out.setF M3.out _ _ _ _, below_setF Y3.out hmx _ _ _ _⟩
        | with_reducible exact ⟨v1.heap.size, A5, c5, A6, c6, rfl, rfl, hmx, Cf.newF M3.out, LR4_3.out.setF M3.out _ _ _ _, LQ4_3.out.setF M3.out _ _ _ _, below_setF Y3.out hmx _ _ _ _⟩
        | with_reducible exact ⟨w1.heap.size, A5, c5, A6, c6, rfl, rfl, hmx, Cf.newF M3.out, LR4_3.out.setF M3.out _ _ _ _, LQ4_3.out.setF M3.out _ _ _ _, below_setF Y3.out hmx _ _ _ _⟩
  case rest =>
    obtain ⟨gm, A5, c5, A6, c6, rfl, rfl, hge, hcm, hsmR4, hsmQ4, hb⟩ := hcut
    replace S1 := kS S1 hb
    replace S2 := kS S2 hb
    replace Ka := kF Ka hb
    replace B := kB B hb
    clear hb
    have Km : Hid (Cf wc gm na A5 la.length c5 nb A6 lb.length c6) := hcm
    have SR4 : Hid (Sl wc A5 la c5) := hsmR4
    have SQ4 : Hid (Sl wc A6 lb c6) := hsmQ4
    clear hcm hsmR4 hsmQ4 hge
    generalize wc = wm at *
    replace hza := lF Ka
    have hzm := lF Km
    clear S1
    clear S2
    clear Ka
    obtain ⟨qm0, qm1, qm2, qm3⟩ := Km.out
    replace hzm := lF Km
    go_wp2_with fail
    refine (hRnd.out _ _ _ _ _ SR4.out SQ4.out).mono ?_
    rintro e w11 ⟨A7, c7, rfl, hs7, hb⟩
    clear qm0 qm1 qm2 qm3
    replace SR4 := kS SR4 hb
    replace SQ4 := kS SQ4 hb
    replace Km := kF Km hb
    replace B := kB B hb
    clear hb
    (try dsimp only at hs7)
    (try dsimp only)
    clear SR4
    clear SQ4
    clear Km
    have Sz : Hid (Sl w11 A7 lz c7) := hs7
    clear hs7
    have hB0 : w.heap.size ≤ w11.heap.size := B.out.size
    go_upto_if 46 with (fail)
    replace Sz : Hid (Sl (w11.alloc (.cells #[.bool nz, .slice A7 lz.length c7] 24)) A7 lz c7) := (Sz.out.alloc _)
    have Fz : Hid (Fw (w11.alloc (.cells #[.bool nz, .slice A7 lz.length c7] 24)) w11.heap.size) := (Fw.fresh (by simp) _ _)
    have Kz : Hid (Cw (w11.alloc (.cells #[.bool nz, .slice A7 lz.length c7] 24)) w11.heap.size nz A7 lz.length c7) := (Cw.fresh (by simp) _ _ _ _ _)
    replace B : Hid (Below w.heap.size w (w11.alloc (.cells #[.bool nz, .slice A7 lz.length c7] 24))) := (below_mono B.out (blw1 _ _))
    generalize w11.alloc (.cells #[.bool nz, .slice A7 lz.length c7] 24) = wy at *
    obtain ⟨qz0, qz1⟩ := Kz.out
    obtain ⟨fz0, fz1⟩ := Fz.out
    go_cut [9] from 45 to 46 (fun s9 wx => s9 = .string ⟨sg.toArray⟩ ∧ wy = wx)
    case first =>
      go_wp2_with fail
      all_goals
        go_meet
        exact ⟨by first | rw [Hsg.out, if_pos (by assumption)] | rw [Hsg.out, if_neg (by simp [*])], rfl⟩
    case rest =>
      obtain ⟨rfl, rfl⟩ := hcut
      have hzz := lW Kz
      go_wp2_with fail
      refine (rabs_any nz A7 lz c7 _ Sz.out).mono ?_
      rw [e4.out]
      rintro e w12 ⟨A8, c8, rfl, hs8, hb⟩
      clear qz0 qz1 fz0 fz1
      replace Sz := kS Sz hb
      replace Fz := kFw Fz Kz hb
      replace Kz := kW Kz hb
      replace B := kB B hb
      clear hb
      (try dsimp only at hs8)
      (try dsimp only)
      clear Sz
      have Sv : Hid (Sl w12 A8 lv c8) := hs8
      clear hs8
      replace hzz := lW Kz
      obtain ⟨qz0, qz1⟩ := Kz.out
      obtain ⟨fz0, fz1⟩ := Fz.out
      go_wp2_with fail
      refine (rtext_any nv A8 lv c8 _ (Sv.out.setW Kz.out.1 Kz.out.2 _ _)).mono ?_
      rw [e5.out]
      rintro e w13 ⟨rfl, hb⟩
      clear qz0 qz1 fz0 fz1
      replace Sv : Hid (Sl w13 A8 lv c8) := Sl.below (Sv.out.setW Kz.out.1 Kz.out.2 _ _) hb
      replace Fz : Hid (Fw w13 w11.heap.size) := Fw.keep (Fw.setW Fz.out _ _) (Cw.new Kz.out) hb
      replace Kz : Hid (Cw w13 w11.heap.size nv A8 lv.length c8) := Cw.keep (Cw.new Kz.out) hb
      replace B : Hid (Below w.heap.size w w13) := below_mono (below_setW B.out (by omega) _ _) hb
      clear hb
      (try dsimp only)
      clear Sv
      clear Kz Fz
      go_wp2
      go_loopg [10] (kn + 1 - T.length) (fun gh s10 wr => ∃ m : List UInt8, s10 = .string ⟨m.toArray⟩ ∧ gh = kn + 1 - m.length ∧ padS m (kn + 1) = padS T (kn + 1) ∧ m.length ≤ T.length + (kn + 1) ∧ wr = w13)
      case atStart => exact ⟨T, rfl, rfl, rfl, by omega, rfl⟩
      case round =>
        obtain ⟨m, rfl, rfl, hm1, hm2, rfl⟩ := hrel
        have M1 := Lib.hid hm1
        clear hm1
        by_cases hk1 : m.length ≤ kn
        · have t1 : decide (m.length ≤ kn) = true := decide_eq_true hk1
          have t2 : decide ((m.length : Int) ≤ (kn : Int)) = true := decide_eq_true (by omega)
          go_wp2_with fail
          go_roundg (kn - m.length)
          case measure => omega
          case rel => exact ⟨48 :: m, by rw [cat_one], by rw [List.length_cons]; omega, by rw [padS_step hk1, M1.out], by rw [List.length_cons]; omega, rfl⟩
        · have t1 : decide (m.length ≤ kn) = false := decide_eq_false hk1
          have t2 : decide ((m.length : Int) ≤ (kn : Int)) = false := decide_eq_false (by omega)
          have HP : Hid (padS T (kn + 1) = m) := by rw [Hid, ← M1.out]; exact padS_id (by omega)
          have hml : m.length ≤ 60000 := by omega
          by_cases hk0 : kn = 0
          · have t3 : ((kn : Int) == 0) = true := by rw [beq_iff_eq]; omega
            have hde : dotS m kn = m := if_pos hk0
            have Hde := Lib.hid hde
            clear hde hk0
            go_wp2
            go_ret2
            exact ⟨by rw [HP.out, Hde.out]; rfl, B.out⟩
          · have t3 : ((kn : Int) == 0) = false := by rw [beq_eq_false_iff_ne]; omega
            have hde : dotS m kn = m.take (m.length - kn) ++ 46 :: m.drop (m.length - kn) := if_neg hk0
            obtain ⟨d, hd⟩ : ∃ d, m.length = d + kn := ⟨m.length - kn, by omega⟩
            have hdd : m.length - kn = d := by omega
            rw [hdd] at hde
            have Hd := Lib.hid hd
            have Hde := Lib.hid hde
            clear hde hdd
            go_wp2_with fail
            go_region
            all_goals
              go_wp2
              go_ret2
              exact ⟨by rw [HP.out, Hde.out, ← Hd.out, ext_take, ext_drop, cat_eq, cat_eq, cat_eq, List.append_assoc, List.append_assoc]; rfl, B.out.drew⟩

/-- The reference's Decimal, at every fraction of at most 1000 limbs and every number of digits. -/
theorem rfdec_any (n1 n2 : Bool) (A1 A2 : Option Addr) (l1 l2 : List Nat) (c1 c2 : Nat) (k : Int) (hl1 : l1.length ≤ 1000) (w : World) (hs1 : Sl w A1 l1 c1) (hs2 : Sl w A2 l2 c2) :
    Calls Tryz.prog 15 #[.agg #[.bool n1, .slice A1 l1.length c1, .bool n2, .slice A2 l2.length c2], .int .i64 k] w (TRes (fdecS n1 l1 n2 l2 k) w) := by
  unfold fdecS
  cases hb : badF n1 l1 n2 l2 with
  | true => rw [if_pos rfl]; exact rfdec_bad n1 n2 A1 A2 l1 l2 c1 c2 k hb w hs1 hs2
  | false =>
    rw [if_neg (by simp)]
    by_cases hk : k < 0 ∨ 50 < k
    · rw [if_pos hk]; exact rfdec_arg n1 n2 A1 A2 l1 l2 c1 c2 k hb hk w hs1 hs2
    · rw [if_neg hk]
      obtain ⟨kn, rfl⟩ : ∃ kn : Nat, k = (kn : Int) := ⟨k.toNat, by omega⟩
      rw [Int.toNat_natCast]
      exact rfdec_good n1 n2 A1 A2 l1 l2 c1 c2 _ _ (vf_of hs1.lim hs2.lim hb) hl1 kn (by omega) w hs1 hs2

end Go.Proofs.YtmelbahbjdogdaaGreatDoor

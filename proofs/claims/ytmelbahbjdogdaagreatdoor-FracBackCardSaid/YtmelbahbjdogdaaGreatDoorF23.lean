/- Walk: frac.Decimal. -/
import Derived.Test.YtmelbahbjdogdaaGreatDoorShelf
import Derived.Test.YtmelbahbjdogdaaGreatDoorF18
import Derived.Test.YtmelbahbjdogdaaGreatDoorW48
import Derived.Deep.RegionHeld3
import Derived.Deep.CutRange
namespace Go.Proofs.YtmelbahbjdogdaaGreatDoor
open Go.RowKit Go.Lib
attribute [local go_sem ↓] Go.wp_at_zero Go.wp_at_succ
set_option maxRecDepth 100000 in
set_option maxHeartbeats 2000000 in
theorem fdec_good (n1 n2 : Bool) (A1 A2 : Option Addr) (l1 l2 : List Nat) (c1 c2 : Nat) (x y : Int) (va : VF n1 l1 n2 l2 x y) (hl1 : l1.length ≤ 1000) (hl2 : l2.length ≤ 1000) (kn : Nat) (hk : kn ≤ 50) (w : World) (hs1 : Sl w A1 l1 c1) (hs2 : Sl w A2 l2 c2) :
    Calls Tryz.prog 14 #[.agg #[.bool n1, .slice A1 l1.length c1, .bool n2, .slice A2 l2.length c2], .int .i64 (kn : Int)] w (TRes (decTxt (rndS (x * 10 ^ kn) y) kn, 0) w) := by
  have S1 := Lib.hid hs1
  have S2 := Lib.hid hs2
  have B : Hid (Below w.heap.size w w) := Below.refl _ _
  have e1 : Hid (chkF n1 l1 n2 l2 = 0) := va.chk
  have d1 : decide ((kn : Int) < 0) = false := decide_eq_false (by omega)
  have d2 : decide ((50 : Int) < (kn : Int)) = false := decide_eq_false (by omega)
  obtain ⟨X, hX⟩ : ∃ X, X = x * 10 ^ kn := ⟨_, rfl⟩
  have fX : fitZ X := dec_fit va.num hl1 hk hX
  obtain ⟨⟨nt, lt⟩, hvt⟩ : ∃ p, p = p10 kn := ⟨_, rfl⟩
  have vt : VZ nt lt ((10 : Int) ^ kn) := vz_mk hvt (fit_pow10 (by omega))
  obtain ⟨⟨nm, lm⟩, hvm⟩ : ∃ p, p = wOf X := ⟨_, rfl⟩
  have vm : VZ nm lm X := vz_mk hvm fX
  have e2 : Hid (mulS n1 l1 nt lt = ((nm, lm), 0)) := by rw [Hid, mulS_z va.num vt (by rw [← hX]; exact fX), ← hX, hvm]
  obtain ⟨⟨⟨na, la⟩, ⟨nb, lb⟩⟩, hred⟩ : ∃ p, p = redZ X y := ⟨_, rfl⟩
  obtain ⟨a, b, vr, -, hr1, hr2⟩ := red_vf (x := X) (y := y) (by have := va.pos; omega) fX va.den.2
  rw [← hred] at vr
  have hfit : badF na la nb lb = false → fitZ ((zv na la).fmod (zv nb lb) + (zv na la).fmod (zv nb lb)) := fun _ => by
    rw [vr.num.zv_eq, vr.den.zv_eq]
    exact dec_fit2 va.den hl2 vr.pos hr2
  obtain ⟨z, hz⟩ : ∃ z, z = rndS X y := ⟨_, rfl⟩
  have hz2 : z = roundZ a b := by rw [hz, rndS, ← hred, vr.num.zv_eq, vr.den.zv_eq]
  have fz : fitZ z := by rw [hz2]; exact round_fit vr.pos vr.num.2
  obtain ⟨⟨nz, lz⟩, hvz⟩ : ∃ p, p = wOf z := ⟨_, rfl⟩
  have vz : VZ nz lz z := vz_mk hvz fz
  have e3 : Hid (froundS na la nb lb = ((nz, lz), 0)) := by rw [Hid, froundS, vr.good, if_neg (by simp), vr.num.zv_eq, vr.den.zv_eq, ← hz2, hvz]
  obtain ⟨⟨nv, lv⟩, hvv⟩ : ∃ p, p = wOf (z.natAbs : Int) := ⟨_, rfl⟩
  have vv : VZ nv lv (z.natAbs : Int) := vz_mk hvv (fit_mono (by simp) fz)
  have e4 : Hid (absS nz lz = ((nv, lv), 0)) := by rw [Hid, absS_z vz, hvv]
  have hnv : nv = false := by rw [vv.neg_eq]; exact decide_eq_false (by omega)
  obtain ⟨T, hT⟩ : ∃ T, T = textZ false z.natAbs := ⟨_, rfl⟩
  have e5 : Hid (textS nv lv = (T, 0)) := by rw [Hid, textS, vv.good, if_neg (by simp), vv.val_eq, hnv, Int.natAbs_natCast, hT]
  have hTl : T.length ≤ 50000 := by rw [hT]; exact dec_len fz
  obtain ⟨sg, hsg⟩ : ∃ sg : List UInt8, sg = if nz = true then [45] else [] := ⟨_, rfl⟩
  have hpost : decTxt z kn = sg ++ dotS (padS T (kn + 1)) kn := by rw [decTxt, hsg, hT, vz.neg_eq]; simp only [decide_eq_true_eq]
  rw [← hX, ← hz, hpost]
  have hTen : Hid (∀ W, Calls Tryz.prog 55 #[.int .i64 (kn : Int)] W (WRes1 (nt, lt) W)) := fun W => by rw [hvt]; exact ten_any kn (by omega) W
  have hRed : Hid (∀ W A B c d, Sl W A lm c → Sl W B l2 d → Calls Tryz.prog 66 #[.agg #[.bool nm, .slice A lm.length c], .agg #[.bool n2, .slice B l2.length d]] W (FRes1 ((na, la), (nb, lb)) W)) := fun W A B c d h1 h2 => by rw [hred]; exact reduce_any nm n2 A B lm l2 c d X y vm va.den (by have := va.pos; omega) W h1 h2
  have hRnd : Hid (∀ W A B c d, Sl W A la c → Sl W B lb d → Calls Tryz.prog 22 #[.agg #[.bool na, .slice A la.length c, .bool nb, .slice B lb.length d]] W (WRes ((nz, lz), 0) W)) := fun W A B c d h1 h2 => by rw [← e3.out]; exact fround_any na nb A B la lb c d hfit W h1 h2
  have Hsg := Lib.hid hsg
  have hsl : sg.length ≤ 1 := by rw [hsg]; split <;> simp
  have hRep : Hid (∀ z W, z = ((kn + 1 - T.length : Nat) : Int) → Calls Tryz.prog 68 #[.string ⟨#[48]⟩, .int .i64 z] W fun e w' => e = .returned (.string ⟨(List.replicate (kn + 1 - T.length) (48 : UInt8)).toArray⟩) ∧ Below W.heap.size W w') := fun z W hz => by
    rw [hz, ← rep_eq]
    exact Tryz.strings_Repeat ⟨#[48]⟩ (kn + 1 - T.length) W (by omega) (by show 1 * (kn + 1 - T.length) ≤ 140737488355328; omega)
  clear hsg hs1 hs2 va hl1 hl2 fX vt vm hvm hred vr hr1 hr2 hfit hz2 fz hvz vz hvv vv hnv hT hpost hvt hX hz
  go_enter_defers Tryz.func14, Tryz.ntmps14
  go_wp2_with fail
  refine (fcheck_any n1 n2 A1 A2 l1 l2 c1 c2 _ ((S1.out.alloc _).alloc _) ((S2.out.alloc _).alloc _)).mono ?_
  rw [e1.out]
  rintro e w1 ⟨rfl, hb⟩
  replace S1 := kS2 S1 hb
  replace S2 := kS2 S2 hb
  have Ka : Hid (Cf w1 w.heap.size n1 A1 l1.length c1 n2 A2 l2.length c2) := Cf.keep (Cf.keep (Cf.fresh (by simp) _ _ _ _ _ _ _ _ _) (blw1 _ _)) hb
  have Ke : Hid (C1 w1 (w.heap.size + 1) (.int .i64 0)) := C1.keep (C1.fresh (by simp) _ _) hb
  replace B := kB2 B hb
  clear hb
  obtain ⟨qa0, qa1, qa2, qa3⟩ := Ka.out
  have hza := lF Ka
  have hze := lC Ke
  go_wp2_with fail
  refine (want_ok _).mono ?_
  rintro e w2 ⟨rfl, hb⟩
  clear qa0 qa1 qa2 qa3
  replace S1 := kS S1 hb
  replace S2 := kS S2 hb
  replace Ka := kF Ka hb
  replace Ke := kC Ke hb
  replace B := kB B hb
  clear hb
  obtain ⟨qa0, qa1, qa2, qa3⟩ := Ka.out
  replace hza := lF Ka
  replace hze := lC Ke
  go_upto_region 5 with fail
  go_cut [6] from 19 to 33 (fun s6 wx => ∃ (gm : Nat) (Am : Option Addr) (cm : Nat), s6 = .pointer (some ⟨gm, 0, none⟩) ∧ w2.heap.size ≤ gm ∧ Cw wx gm nz Am lz.length cm ∧ Sl wx Am lz cm ∧ Below w2.heap.size w2 wx)
  case first =>
    have K0 : Hid (Cf w2.drew w.heap.size n1 A1 l1.length c1 n2 A2 l2.length c2) := Ka.out
    have N0 : Hid (Sl w2.drew A1 l1 c1) := Sl.drew S1.out
    have T0 : Hid (Sl w2.drew A2 l2 c2) := Sl.drew S2.out
    have Y0 : Hid (Below w2.heap.size w2 w2.drew) := (Below.refl _ _).drew
    have J0 : Hid (w2.drew.cell? ⟨w.heap.size, 0, none⟩ = some (.bool n1) ∧ w2.drew.cell? ⟨w.heap.size, 1, none⟩ = some (.slice A1 l1.length c1) ∧ w2.drew.cell? ⟨w.heap.size, 2, none⟩ = some (.bool n2) ∧ w2.drew.cell? ⟨w.heap.size, 3, none⟩ = some (.slice A2 l2.length c2)) := ⟨Ka.out.1, Ka.out.2.1, Ka.out.2.2.1, Ka.out.2.2.2⟩
    have N_0 := N0
    have T_0 := T0
    go_region_held3 (fun w' => w'.cell? ⟨w.heap.size, 0, none⟩ = some (.bool n1) ∧ w'.cell? ⟨w.heap.size, 1, none⟩ = some (.slice A1 l1.length c1) ∧ w'.cell? ⟨w.heap.size, 2, none⟩ = some (.bool n2) ∧ w'.cell? ⟨w.heap.size, 3, none⟩ = some (.slice A2 l2.length c2))
      (first | exact Cf.setW K6.out (by omega) _ _ | with_reducible exact J6.out | with_reducible exact J5.out | with_reducible exact J4.out | with_reducible exact J3.out | with_reducible exact J2.out | with_reducible exact J1.out | with_reducible exact J0.out | exact Cf.keep K6.out (blw1 _ _) | exact Cf.keep K5.out (blw1 _ _) | exact Cf.keep K4.out (blw1 _ _) | exact Cf.keep K3.out (blw1 _ _) | exact Cf.keep K2.out (blw1 _ _) | exact Cf.keep K1.out (blw1 _ _) | exact Cf.keep K0.out (blw1 _ _))
      (first
        | (go_at_call 55; first | ((with_reducible refine (hTen.out w2.drew).mono ?_); rintro e v1 ⟨A3, c3, rfl, hs3, hb⟩; (try dsimp only at hs3); (try dsimp only); have R1_1 : Hid (Sl v1 A3 lt c3) := hs3; have N_1 : Hid (Sl v1 A1 l1 c1) := Sl.below (N_0.out) hb; have T_1 : Hid (Sl v1 A2 l2 c2) := Sl.below (T_0.out) hb; have K1 : Hid (Cf v1 w.heap.size n1 A1 l1.length c1 n2 A2 l2.length c2) := Cf.keep K0.out hb; have Y1 : Hid (Below w2.heap.size w2 v1) := below_mono Y0.out hb; have J1 : Hid (v1.cell? ⟨w.heap.size, 0, none⟩ = some (.bool n1) ∧ v1.cell? ⟨w.heap.size, 1, none⟩ = some (.slice A1 l1.length c1) ∧ v1.cell? ⟨w.heap.size, 2, none⟩ = some (.bool n2) ∧ v1.cell? ⟨w.heap.size, 3, none⟩ = some (.slice A2 l2.length c2)) := ⟨K1.out.1, K1.out.2.1, K1.out.2.2.1, K1.out.2.2.2⟩; have hlt1 : w.heap.size < v1.heap.size := lt_of_cell (a := ⟨w.heap.size, 0, none⟩) K1.out.1; clear hb hs3) | ((with_reducible refine (hTen.out ((w2.alloc (.cells #[.bool false, .slice none 0 0] 24)).drew)).mono ?_); rintro e v1 ⟨A3, c3, rfl, hs3, hb⟩; (try dsimp only at hs3); (try dsimp only); have R1_1 : Hid (Sl v1 A3 lt c3) := hs3; have N_1 : Hid (Sl v1 A1 l1 c1) := Sl.below (N_0.out.alloc (.cells #[.bool false, .slice none 0 0] 24)) hb; have T_1 : Hid (Sl v1 A2 l2 c2) := Sl.below (T_0.out.alloc (.cells #[.bool false, .slice none 0 0] 24)) hb; have K1 : Hid (Cf v1 w.heap.size n1 A1 l1.length c1 n2 A2 l2.length c2) := Cf.keep (Cf.keep K0.out (blw1 _ (.cells #[.bool false, .slice none 0 0] 24))) hb; have Y1 : Hid (Below w2.heap.size w2 v1) := below_mono (below_mono Y0.out (blw1 _ (.cells #[.bool false, .slice none 0 0] 24))) hb; have M1 : Hid (Cw v1 w2.heap.size false none 0 0) := Cw.keep (Cw.fresh (w := w2.drew) (g := w2.heap.size) rfl false none 0 0 24) hb; have F1 : Hid (Fw v1 w2.heap.size) := Fw.keep (Fw.fresh (w := w2.drew) (g := w2.heap.size) rfl _ 24) (Cw.fresh (w := w2.drew) (g := w2.heap.size) rfl false none 0 0 24) hb; obtain ⟨m0_1, m1_1⟩ := M1.out; obtain ⟨f0_1, f1_1⟩ := F1.out; have hm : w2.heap.size < v1.heap.size := lt_of_cell (a := ⟨w2.heap.size, 0, none⟩) M1.out.1; have hmx : w2.heap.size ≤ w2.heap.size := Nat.le_refl _; have J1 : Hid (v1.cell? ⟨w.heap.size, 0, none⟩ = some (.bool n1) ∧ v1.cell? ⟨w.heap.size, 1, none⟩ = some (.slice A1 l1.length c1) ∧ v1.cell? ⟨w.heap.size, 2, none⟩ = some (.bool n2) ∧ v1.cell? ⟨w.heap.size, 3, none⟩ = some (.slice A2 l2.length c2)) := ⟨K1.out.1, K1.out.2.1, K1.out.2.2.1, K1.out.2.2.2⟩; have hlt1 : w.heap.size < v1.heap.size := lt_of_cell (a := ⟨w.heap.size, 0, none⟩) K1.out.1; clear hb hs3))
        | (go_at_call 54; first | ((with_reducible refine (wmul_any n1 nt _ _ l1 lt _ _ v1 (N_1.out) (R1_1.out)).mono ?_); rw [e2.out]; rintro e v2 ⟨A4, c4, rfl, hs4, hb⟩; (try dsimp only at hs4); (try dsimp only); have R2_2 : Hid (Sl v2 A4 lm c4) := hs4; have T_2 : Hid (Sl v2 A2 l2 c2) := Sl.below (T_1.out) hb; have K2 : Hid (Cf v2 w.heap.size n1 A1 l1.length c1 n2 A2 l2.length c2) := Cf.keep K1.out hb; have Y2 : Hid (Below w2.heap.size w2 v2) := below_mono Y1.out hb; (try (have M2 := Lib.hid (M1.out.keep hb); have F2 := Lib.hid (Fw.keep F1.out M1.out hb); obtain ⟨m0_2, m1_2⟩ := M2.out; obtain ⟨f0_2, f1_2⟩ := F2.out)); have J2 : Hid (v2.cell? ⟨w.heap.size, 0, none⟩ = some (.bool n1) ∧ v2.cell? ⟨w.heap.size, 1, none⟩ = some (.slice A1 l1.length c1) ∧ v2.cell? ⟨w.heap.size, 2, none⟩ = some (.bool n2) ∧ v2.cell? ⟨w.heap.size, 3, none⟩ = some (.slice A2 l2.length c2)) := ⟨K2.out.1, K2.out.2.1, K2.out.2.2.1, K2.out.2.2.2⟩; have hlt2 : w.heap.size < v2.heap.size := lt_of_cell (a := ⟨w.heap.size, 0, none⟩) K2.out.1; clear hb hs4) | ((with_reducible refine (wmul_any n1 nt _ _ l1 lt _ _ (v1.alloc (.cells #[.bool false, .slice none 0 0] 24)) (N_1.out.alloc (.cells #[.bool false, .slice none 0 0] 24)) (R1_1.out.alloc (.cells #[.bool false, .slice none 0 0] 24))).mono ?_); rw [e2.out]; rintro e v2 ⟨A4, c4, rfl, hs4, hb⟩; (try dsimp only at hs4); (try dsimp only); have R2_2 : Hid (Sl v2 A4 lm c4) := hs4; have T_2 : Hid (Sl v2 A2 l2 c2) := Sl.below (T_1.out.alloc (.cells #[.bool false, .slice none 0 0] 24)) hb; have K2 : Hid (Cf v2 w.heap.size n1 A1 l1.length c1 n2 A2 l2.length c2) := Cf.keep (Cf.keep K1.out (blw1 _ (.cells #[.bool false, .slice none 0 0] 24))) hb; have Y2 : Hid (Below w2.heap.size w2 v2) := below_mono (below_mono Y1.out (blw1 _ (.cells #[.bool false, .slice none 0 0] 24))) hb; have M2 : Hid (Cw v2 v1.heap.size false none 0 0) := Cw.keep (Cw.fresh (w := v1) (g := v1.heap.size) rfl false none 0 0 24) hb; have F2 : Hid (Fw v2 v1.heap.size) := Fw.keep (Fw.fresh (w := v1) (g := v1.heap.size) rfl _ 24) (Cw.fresh (w := v1) (g := v1.heap.size) rfl false none 0 0 24) hb; obtain ⟨m0_2, m1_2⟩ := M2.out; obtain ⟨f0_2, f1_2⟩ := F2.out; have hm : v1.heap.size < v2.heap.size := lt_of_cell (a := ⟨v1.heap.size, 0, none⟩) M2.out.1; have hmx : w2.heap.size ≤ v1.heap.size := Y1.out.size; have J2 : Hid (v2.cell? ⟨w.heap.size, 0, none⟩ = some (.bool n1) ∧ v2.cell? ⟨w.heap.size, 1, none⟩ = some (.slice A1 l1.length c1) ∧ v2.cell? ⟨w.heap.size, 2, none⟩ = some (.bool n2) ∧ v2.cell? ⟨w.heap.size, 3, none⟩ = some (.slice A2 l2.length c2)) := ⟨K2.out.1, K2.out.2.1, K2.out.2.2.1, K2.out.2.2.2⟩; have hlt2 : w.heap.size < v2.heap.size := lt_of_cell (a := ⟨w.heap.size, 0, none⟩) K2.out.1; clear hb hs4))
        | (go_at_call 53; first | ((with_reducible refine (must_ok nm A4 lm.length c4 v2).mono ?_); rintro e v3 ⟨rfl, hb⟩; (try dsimp only); have T_3 : Hid (Sl v3 A2 l2 c2) := Sl.below (T_2.out) hb; have R2_3 : Hid (Sl v3 A4 lm c4) := Sl.below (R2_2.out) hb; have K3 : Hid (Cf v3 w.heap.size n1 A1 l1.length c1 n2 A2 l2.length c2) := Cf.keep K2.out hb; have Y3 : Hid (Below w2.heap.size w2 v3) := below_mono Y2.out hb; (try (have M3 := Lib.hid (M2.out.keep hb); have F3 := Lib.hid (Fw.keep F2.out M2.out hb); obtain ⟨m0_3, m1_3⟩ := M3.out; obtain ⟨f0_3, f1_3⟩ := F3.out)); have J3 : Hid (v3.cell? ⟨w.heap.size, 0, none⟩ = some (.bool n1) ∧ v3.cell? ⟨w.heap.size, 1, none⟩ = some (.slice A1 l1.length c1) ∧ v3.cell? ⟨w.heap.size, 2, none⟩ = some (.bool n2) ∧ v3.cell? ⟨w.heap.size, 3, none⟩ = some (.slice A2 l2.length c2)) := ⟨K3.out.1, K3.out.2.1, K3.out.2.2.1, K3.out.2.2.2⟩; have hlt3 : w.heap.size < v3.heap.size := lt_of_cell (a := ⟨w.heap.size, 0, none⟩) K3.out.1; clear hb) | ((with_reducible refine (must_ok nm A4 lm.length c4 (v2.alloc (.cells #[.bool false, .slice none 0 0] 24))).mono ?_); rintro e v3 ⟨rfl, hb⟩; (try dsimp only); have T_3 : Hid (Sl v3 A2 l2 c2) := Sl.below (T_2.out.alloc (.cells #[.bool false, .slice none 0 0] 24)) hb; have R2_3 : Hid (Sl v3 A4 lm c4) := Sl.below (R2_2.out.alloc (.cells #[.bool false, .slice none 0 0] 24)) hb; have K3 : Hid (Cf v3 w.heap.size n1 A1 l1.length c1 n2 A2 l2.length c2) := Cf.keep (Cf.keep K2.out (blw1 _ (.cells #[.bool false, .slice none 0 0] 24))) hb; have Y3 : Hid (Below w2.heap.size w2 v3) := below_mono (below_mono Y2.out (blw1 _ (.cells #[.bool false, .slice none 0 0] 24))) hb; have M3 : Hid (Cw v3 v2.heap.size false none 0 0) := Cw.keep (Cw.fresh (w := v2) (g := v2.heap.size) rfl false none 0 0 24) hb; have F3 : Hid (Fw v3 v2.heap.size) := Fw.keep (Fw.fresh (w := v2) (g := v2.heap.size) rfl _ 24) (Cw.fresh (w := v2) (g := v2.heap.size) rfl false none 0 0 24) hb; obtain ⟨m0_3, m1_3⟩ := M3.out; obtain ⟨f0_3, f1_3⟩ := F3.out; have hm : v2.heap.size < v3.heap.size := lt_of_cell (a := ⟨v2.heap.size, 0, none⟩) M3.out.1; have hmx : w2.heap.size ≤ v2.heap.size := Y2.out.size; have J3 : Hid (v3.cell? ⟨w.heap.size, 0, none⟩ = some (.bool n1) ∧ v3.cell? ⟨w.heap.size, 1, none⟩ = some (.slice A1 l1.length c1) ∧ v3.cell? ⟨w.heap.size, 2, none⟩ = some (.bool n2) ∧ v3.cell? ⟨w.heap.size, 3, none⟩ = some (.slice A2 l2.length c2)) := ⟨K3.out.1, K3.out.2.1, K3.out.2.2.1, K3.out.2.2.2⟩; have hlt3 : w.heap.size < v3.heap.size := lt_of_cell (a := ⟨w.heap.size, 0, none⟩) K3.out.1; clear hb))
        | (go_at_call 66; first | ((with_reducible refine (hRed.out v3 _ _ _ _ (R2_3.out) (T_3.out)).mono ?_); rintro e v4 ⟨A5, c5, A6, c6, rfl, hs5, hs6, hb⟩; (try dsimp only at hs5); (try dsimp only at hs6); (try dsimp only); have R4_4 : Hid (Sl v4 A5 la c5) := hs5; have Q4_4 : Hid (Sl v4 A6 lb c6) := hs6; have K4 : Hid (Cf v4 w.heap.size n1 A1 l1.length c1 n2 A2 l2.length c2) := Cf.keep K3.out hb; have Y4 : Hid (Below w2.heap.size w2 v4) := below_mono Y3.out hb; (try (have M4 := Lib.hid (M3.out.keep hb); have F4 := Lib.hid (Fw.keep F3.out M3.out hb); obtain ⟨m0_4, m1_4⟩ := M4.out; obtain ⟨f0_4, f1_4⟩ := F4.out)); have J4 : Hid (v4.cell? ⟨w.heap.size, 0, none⟩ = some (.bool n1) ∧ v4.cell? ⟨w.heap.size, 1, none⟩ = some (.slice A1 l1.length c1) ∧ v4.cell? ⟨w.heap.size, 2, none⟩ = some (.bool n2) ∧ v4.cell? ⟨w.heap.size, 3, none⟩ = some (.slice A2 l2.length c2)) := ⟨K4.out.1, K4.out.2.1, K4.out.2.2.1, K4.out.2.2.2⟩; have hlt4 : w.heap.size < v4.heap.size := lt_of_cell (a := ⟨w.heap.size, 0, none⟩) K4.out.1; clear hb hs5 hs6) | ((with_reducible refine (hRed.out (v3.alloc (.cells #[.bool false, .slice none 0 0] 24)) _ _ _ _ (R2_3.out.alloc (.cells #[.bool false, .slice none 0 0] 24)) (T_3.out.alloc (.cells #[.bool false, .slice none 0 0] 24))).mono ?_); rintro e v4 ⟨A5, c5, A6, c6, rfl, hs5, hs6, hb⟩; (try dsimp only at hs5); (try dsimp only at hs6); (try dsimp only); have R4_4 : Hid (Sl v4 A5 la c5) := hs5; have Q4_4 : Hid (Sl v4 A6 lb c6) := hs6; have K4 : Hid (Cf v4 w.heap.size n1 A1 l1.length c1 n2 A2 l2.length c2) := Cf.keep (Cf.keep K3.out (blw1 _ (.cells #[.bool false, .slice none 0 0] 24))) hb; have Y4 : Hid (Below w2.heap.size w2 v4) := below_mono (below_mono Y3.out (blw1 _ (.cells #[.bool false, .slice none 0 0] 24))) hb; have M4 : Hid (Cw v4 v3.heap.size false none 0 0) := Cw.keep (Cw.fresh (w := v3) (g := v3.heap.size) rfl false none 0 0 24) hb; have F4 : Hid (Fw v4 v3.heap.size) := Fw.keep (Fw.fresh (w := v3) (g := v3.heap.size) rfl _ 24) (Cw.fresh (w := v3) (g := v3.heap.size) rfl false none 0 0 24) hb; obtain ⟨m0_4, m1_4⟩ := M4.out; obtain ⟨f0_4, f1_4⟩ := F4.out; have hm : v3.heap.size < v4.heap.size := lt_of_cell (a := ⟨v3.heap.size, 0, none⟩) M4.out.1; have hmx : w2.heap.size ≤ v3.heap.size := Y3.out.size; have J4 : Hid (v4.cell? ⟨w.heap.size, 0, none⟩ = some (.bool n1) ∧ v4.cell? ⟨w.heap.size, 1, none⟩ = some (.slice A1 l1.length c1) ∧ v4.cell? ⟨w.heap.size, 2, none⟩ = some (.bool n2) ∧ v4.cell? ⟨w.heap.size, 3, none⟩ = some (.slice A2 l2.length c2)) := ⟨K4.out.1, K4.out.2.1, K4.out.2.2.1, K4.out.2.2.2⟩; have hlt4 : w.heap.size < v4.heap.size := lt_of_cell (a := ⟨w.heap.size, 0, none⟩) K4.out.1; clear hb hs5 hs6))
        | (go_at_call 22; first | ((with_reducible refine (hRnd.out v4 _ _ _ _ (R4_4.out) (Q4_4.out)).mono ?_); rintro e v5 ⟨A7, c7, rfl, hs7, hb⟩; (try dsimp only at hs7); (try dsimp only); have R5_5 : Hid (Sl v5 A7 lz c7) := hs7; have K5 : Hid (Cf v5 w.heap.size n1 A1 l1.length c1 n2 A2 l2.length c2) := Cf.keep K4.out hb; have Y5 : Hid (Below w2.heap.size w2 v5) := below_mono Y4.out hb; (try (have M5 := Lib.hid (M4.out.keep hb); have F5 := Lib.hid (Fw.keep F4.out M4.out hb); obtain ⟨m0_5, m1_5⟩ := M5.out; obtain ⟨f0_5, f1_5⟩ := F5.out)); have J5 : Hid (v5.cell? ⟨w.heap.size, 0, none⟩ = some (.bool n1) ∧ v5.cell? ⟨w.heap.size, 1, none⟩ = some (.slice A1 l1.length c1) ∧ v5.cell? ⟨w.heap.size, 2, none⟩ = some (.bool n2) ∧ v5.cell? ⟨w.heap.size, 3, none⟩ = some (.slice A2 l2.length c2)) := ⟨K5.out.1, K5.out.2.1, K5.out.2.2.1, K5.out.2.2.2⟩; have hlt5 : w.heap.size < v5.heap.size := lt_of_cell (a := ⟨w.heap.size, 0, none⟩) K5.out.1; clear hb hs7) | ((with_reducible refine (hRnd.out (v4.alloc (.cells #[.bool false, .slice none 0 0] 24)) _ _ _ _ (R4_4.out.alloc (.cells #[.bool false, .slice none 0 0] 24)) (Q4_4.out.alloc (.cells #[.bool false, .slice none 0 0] 24))).mono ?_); rintro e v5 ⟨A7, c7, rfl, hs7, hb⟩; (try dsimp only at hs7); (try dsimp only); have R5_5 : Hid (Sl v5 A7 lz c7) := hs7; have K5 : Hid (Cf v5 w.heap.size n1 A1 l1.length c1 n2 A2 l2.length c2) := Cf.keep (Cf.keep K4.out (blw1 _ (.cells #[.bool false, .slice none 0 0] 24))) hb; have Y5 : Hid (Below w2.heap.size w2 v5) := below_mono (below_mono Y4.out (blw1 _ (.cells #[.bool false, .slice none 0 0] 24))) hb; have M5 : Hid (Cw v5 v4.heap.size false none 0 0) := Cw.keep (Cw.fresh (w := v4) (g := v4.heap.size) rfl false none 0 0 24) hb; have F5 : Hid (Fw v5 v4.heap.size) := Fw.keep (Fw.fresh (w := v4) (g := v4.heap.size) rfl _ 24) (Cw.fresh (w := v4) (g := v4.heap.size) rfl false none 0 0 24) hb; obtain ⟨m0_5, m1_5⟩ := M5.out; obtain ⟨f0_5, f1_5⟩ := F5.out; have hm : v4.heap.size < v5.heap.size := lt_of_cell (a := ⟨v4.heap.size, 0, none⟩) M5.out.1; have hmx : w2.heap.size ≤ v4.heap.size := Y4.out.size; have J5 : Hid (v5.cell? ⟨w.heap.size, 0, none⟩ = some (.bool n1) ∧ v5.cell? ⟨w.heap.size, 1, none⟩ = some (.slice A1 l1.length c1) ∧ v5.cell? ⟨w.heap.size, 2, none⟩ = some (.bool n2) ∧ v5.cell? ⟨w.heap.size, 3, none⟩ = some (.slice A2 l2.length c2)) := ⟨K5.out.1, K5.out.2.1, K5.out.2.2.1, K5.out.2.2.2⟩; have hlt5 : w.heap.size < v5.heap.size := lt_of_cell (a := ⟨w.heap.size, 0, none⟩) K5.out.1; clear hb hs7))
        | (go_at_call 53; first | ((with_reducible refine (must_ok nz A7 lz.length c7 v5).mono ?_); rintro e v6 ⟨rfl, hb⟩; (try dsimp only); have R5_6 : Hid (Sl v6 A7 lz c7) := Sl.below (R5_5.out) hb; have K6 : Hid (Cf v6 w.heap.size n1 A1 l1.length c1 n2 A2 l2.length c2) := Cf.keep K5.out hb; have Y6 : Hid (Below w2.heap.size w2 v6) := below_mono Y5.out hb; (try (have M6 := Lib.hid (M5.out.keep hb); have F6 := Lib.hid (Fw.keep F5.out M5.out hb); obtain ⟨m0_6, m1_6⟩ := M6.out; obtain ⟨f0_6, f1_6⟩ := F6.out)); have J6 : Hid (v6.cell? ⟨w.heap.size, 0, none⟩ = some (.bool n1) ∧ v6.cell? ⟨w.heap.size, 1, none⟩ = some (.slice A1 l1.length c1) ∧ v6.cell? ⟨w.heap.size, 2, none⟩ = some (.bool n2) ∧ v6.cell? ⟨w.heap.size, 3, none⟩ = some (.slice A2 l2.length c2)) := ⟨K6.out.1, K6.out.2.1, K6.out.2.2.1, K6.out.2.2.2⟩; have hlt6 : w.heap.size < v6.heap.size := lt_of_cell (a := ⟨w.heap.size, 0, none⟩) K6.out.1; clear hb) | ((with_reducible refine (must_ok nz A7 lz.length c7 (v5.alloc (.cells #[.bool false, .slice none 0 0] 24))).mono ?_); rintro e v6 ⟨rfl, hb⟩; (try dsimp only); have R5_6 : Hid (Sl v6 A7 lz c7) := Sl.below (R5_5.out.alloc (.cells #[.bool false, .slice none 0 0] 24)) hb; have K6 : Hid (Cf v6 w.heap.size n1 A1 l1.length c1 n2 A2 l2.length c2) := Cf.keep (Cf.keep K5.out (blw1 _ (.cells #[.bool false, .slice none 0 0] 24))) hb; have Y6 : Hid (Below w2.heap.size w2 v6) := below_mono (below_mono Y5.out (blw1 _ (.cells #[.bool false, .slice none 0 0] 24))) hb; have M6 : Hid (Cw v6 v5.heap.size false none 0 0) := Cw.keep (Cw.fresh (w := v5) (g := v5.heap.size) rfl false none 0 0 24) hb; have F6 : Hid (Fw v6 v5.heap.size) := Fw.keep (Fw.fresh (w := v5) (g := v5.heap.size) rfl _ 24) (Cw.fresh (w := v5) (g := v5.heap.size) rfl false none 0 0 24) hb; obtain ⟨m0_6, m1_6⟩ := M6.out; obtain ⟨f0_6, f1_6⟩ := F6.out; have hm : v5.heap.size < v6.heap.size := lt_of_cell (a := ⟨v5.heap.size, 0, none⟩) M6.out.1; have hmx : w2.heap.size ≤ v5.heap.size := Y5.out.size; have J6 : Hid (v6.cell? ⟨w.heap.size, 0, none⟩ = some (.bool n1) ∧ v6.cell? ⟨w.heap.size, 1, none⟩ = some (.slice A1 l1.length c1) ∧ v6.cell? ⟨w.heap.size, 2, none⟩ = some (.bool n2) ∧ v6.cell? ⟨w.heap.size, 3, none⟩ = some (.slice A2 l2.length c2)) := ⟨K6.out.1, K6.out.2.1, K6.out.2.2.1, K6.out.2.2.2⟩; have hlt6 : w.heap.size < v6.heap.size := lt_of_cell (a := ⟨w.heap.size, 0, none⟩) K6.out.1; clear hb)))
    all_goals
      go_wp2_with fail
      go_meet
      first
        | exact ⟨v6.heap.size, A7, c7, rfl, Y6.out.size, Cw.fresh rfl _ _ _ _ _, R5_6.out.alloc _, below_mono Y6.out (blw1 _ _)⟩
        | exact ⟨v5.heap.size, A7, c7, rfl, hmx, Cw.new M6.out, R5_6.out.setW M6.out.1 M6.out.2 _ _, below_setW Y6.out hmx _ _⟩
        | exact ⟨v4.heap.size, A7, c7, rfl, hmx, Cw.new M6.out, R5_6.out.setW M6.out.1 M6.out.2 _ _, below_setW Y6.out hmx _ _⟩
        | exact ⟨v3.heap.size, A7, c7, rfl, hmx, Cw.new M6.out, R5_6.out.setW M6.out.1 M6.out.2 _ _, below_setW Y6.out hmx _ _⟩
        | exact ⟨v2.heap.size, A7, c7, rfl, hmx, Cw.new M6.out, R5_6.out.setW M6.out.1 M6.out.2 _ _, below_setW Y6.out hmx _ _⟩
        | exact ⟨v1.heap.size, A7, c7, rfl, hmx, Cw.new M6.out, R5_6.out.setW M6.out.1 M6.out.2 _ _, below_setW Y6.out hmx _ _⟩
        | exact ⟨w2.heap.size, A7, c7, rfl, hmx, Cw.new M6.out, R5_6.out.setW M6.out.1 M6.out.2 _ _, below_setW Y6.out hmx _ _⟩
  case rest =>
    obtain ⟨gm, Am, cm, rfl, hge, hcm, hsm, hb⟩ := hcut
    clear qa0 qa1 qa2 qa3
    clear S1
    clear S2
    clear Ka
    replace Ke := kC Ke hb
    replace B := kB B hb
    clear hb
    have Km : Hid (Cw wc gm nz Am lz.length cm) := hcm
    have Sm : Hid (Sl wc Am lz cm) := hsm
    clear hcm hsm hge
    obtain ⟨qm0, qm1⟩ := Km.out
    replace hze := lC Ke
    have hzm := lW Km
    go_upto_if 35 with (fail)
    go_cut [7] from 34 to 35 (fun s7 wx => s7 = .string ⟨sg.toArray⟩ ∧ wx = wc)
    case first =>
      go_wp2_with fail
      all_goals
        go_meet
        exact ⟨by first | rw [Hsg.out, if_pos (by assumption)] | rw [Hsg.out, if_neg (by simp [*])], rfl⟩
    case rest =>
      obtain ⟨rfl, rfl⟩ := hcut
      go_wp2_with fail
      refine (abs_any nz Am lz cm _ Sm.out).mono ?_
      rw [e4.out]
      rintro e w11 ⟨A8, c8, rfl, hs8, hb⟩
      clear qm0 qm1
      replace Sm := kS Sm hb
      replace Ke := kC Ke hb
      replace Km := kW Km hb
      replace B := kB B hb
      clear hb
      (try dsimp only at hs8)
      (try dsimp only)
      clear Sm
      clear Km
      have Sv : Hid (Sl w11 A8 lv c8) := hs8
      clear hs8
      replace hze := lC Ke
      go_wp2_with fail
      refine (must_ok nv A8 lv.length c8 _).mono ?_
      rintro e w12 ⟨rfl, hb⟩
      replace Sv := kS Sv hb
      replace Ke := kC Ke hb
      replace B := kB B hb
      clear hb
      replace hze := lC Ke
      go_wp2_with fail
      refine (wtext_any nv A8 lv c8 _ Sv.out).mono ?_
      rw [e5.out]
      rintro e w13 ⟨rfl, hb⟩
      replace Sv := kS Sv hb
      replace Ke := kC Ke hb
      replace B := kB B hb
      clear hb
      (try dsimp only)
      clear Sv
      replace hze := lC Ke
      go_upto_if 48 with (fail)
      go_cut [4] from 45 to 56 (fun s4 wx => s4 = .string ⟨(padS T (kn + 1)).toArray⟩ ∧ Below w13.heap.size w13 wx)
      case first =>
        by_cases hTk : T.length ≤ kn
        · have t1 : decide (T.length ≤ kn) = true := decide_eq_true hTk
          have t2 : decide ((T.length : Int) ≤ (kn : Int)) = true := decide_eq_true (by omega)
          go_wp2_with fail
          refine (hRep.out _ _ (by omega)).mono ?_
          rintro e u1 ⟨rfl, hb⟩
          have Hb := Lib.hid hb
          clear hb
          have hrl : (List.replicate (kn + 1 - T.length) (48 : UInt8)).length ≤ 60 := by rw [List.length_replicate]; omega
          have hpe : padS T (kn + 1) = List.replicate (kn + 1 - T.length) 48 ++ T := rfl
          have Hpe := Lib.hid hpe
          clear hpe
          generalize List.replicate (kn + 1 - T.length) (48 : UInt8) = R at *
          go_wp2_with fail
          go_meet
          exact ⟨by rw [Hpe.out, cat_eq], Hb.out⟩
        · have t1 : decide (T.length ≤ kn) = false := decide_eq_false hTk
          have t2 : decide ((T.length : Int) ≤ (kn : Int)) = false := decide_eq_false (by omega)
          have hpe : padS T (kn + 1) = T := padS_id (by omega)
          have Hpe := Lib.hid hpe
          clear hpe
          go_wp2_with fail
          go_meet
          exact ⟨by rw [Hpe.out], Below.refl _ _⟩
      case rest =>
        obtain ⟨rfl, hb⟩ := hcut
        replace Ke := kC Ke hb
        replace B := kB B hb
        clear hb
        obtain ⟨hp1, hp2⟩ := padS_len T (kn + 1)
        generalize padS T (kn + 1) = P at *
        have hpl : P.length ≤ 50100 := by omega
        replace hze := lC Ke
        go_upto_if 58 with (fail)
        go_cut [4] from 57 to 70 (fun s4 wx => s4 = .string ⟨(dotS P kn).toArray⟩ ∧ Below wc.heap.size wc wx)
        case first =>
          by_cases hk0 : kn = 0
          · subst hk0
            have hde : dotS P 0 = P := if_pos rfl
            have Hde := Lib.hid hde
            clear hde
            go_wp2_with fail
            go_meet
            exact ⟨by rw [Hde.out], Below.refl _ _⟩
          · have t3 : decide ((0 : Int) < (kn : Int)) = true := decide_eq_true (by omega)
            have t4 : decide (0 < kn) = true := decide_eq_true (by omega)
            have hde : dotS P kn = P.take (P.length - kn) ++ 46 :: P.drop (P.length - kn) := if_neg hk0
            obtain ⟨d, hd⟩ : ∃ d, P.length = d + kn := ⟨P.length - kn, by omega⟩
            have hdd : P.length - kn = d := by omega
            rw [hdd] at hde
            have Hde := Lib.hid hde
            have Hd := Lib.hid hd
            clear hde hdd
            go_wp2_with fail
            go_region
            all_goals
              go_wp2_with fail
              go_meet
              exact ⟨by rw [Hde.out, ← Hd.out, ext_take, ext_drop, cat_eq, cat_eq, List.append_assoc]; rfl, (Below.refl _ _).drew⟩
        case rest =>
          obtain ⟨rfl, hb⟩ := hcut
          replace Ke := kC Ke hb
          replace B := kB B hb
          clear hb
          replace hze := lC Ke
          obtain ⟨qe0, qe1⟩ := Ke.out
          have hdl : (dotS P kn).length ≤ 50200 := by unfold dotS; split; (· omega); (· rw [List.length_append, List.length_cons, List.length_take, List.length_drop]; omega)
          generalize dotS P kn = Q at *
          go_wp2_with fail
          refine leaves_cons (f := 46) (args := #[.pointer (some ⟨w.heap.size + 1, 0, none⟩)]) (by simp) (by simp [go_sem]) ?_
          refine (catch_idle ⟨w.heap.size + 1, 0, none⟩ _).mono ?_
          rintro e u' w'' ⟨rfl, rfl, rfl⟩
          simp [Leaves, settle, results, Tryz.results14, go_sem, qe0]
          exact ⟨by rw [cat_eq], Below.setCell B.out (p := ⟨w.heap.size + 1, 0, none⟩) (by simp) _⟩

/-- frac.Decimal, where nothing falls. -/
theorem fdec_ok (n1 n2 : Bool) (A1 A2 : Option Addr) (l1 l2 : List Nat) (c1 c2 : Nat) (k : Int) (hb : badF n1 l1 n2 l2 = false) (h0 : 0 ≤ k) (h50 : k ≤ 50) (hl1 : l1.length ≤ 1000) (hl2 : l2.length ≤ 1000) (w : World) (hs1 : Sl w A1 l1 c1) (hs2 : Sl w A2 l2 c2) :
    Calls Tryz.prog 14 #[.agg #[.bool n1, .slice A1 l1.length c1, .bool n2, .slice A2 l2.length c2], .int .i64 k] w (TRes (fdecS n1 l1 n2 l2 k) w) := by
  unfold fdecS
  rw [if_neg (by rw [hb]; simp), if_neg (by omega)]
  obtain ⟨kn, rfl⟩ : ∃ kn : Nat, k = (kn : Int) := ⟨k.toNat, by omega⟩
  rw [Int.toNat_natCast]
  exact fdec_good n1 n2 A1 A2 l1 l2 c1 c2 _ _ (vf_of hs1.lim hs2.lim hb) hl1 hl2 kn (by omega) w hs1 hs2

end Go.Proofs.YtmelbahbjdogdaaGreatDoor

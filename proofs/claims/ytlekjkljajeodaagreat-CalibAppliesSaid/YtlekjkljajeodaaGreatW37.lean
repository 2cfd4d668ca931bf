/- Walks: the reference's DivMod. -/
import Derived.Test.YtlekjkljajeodaaGreatW20
import Derived.Test.YtlekjkljajeodaaGreatW34
import Derived.Test.YtlekjkljajeodaaGreatW18
import Derived.Test.YtlekjkljajeodaaGreatW2
import Derived.Test.YtlekjkljajeodaaGreatMem
import Derived.Test.YtlekjkljajeodaaGreatMath
import Derived.Deep.CutRange
import Derived.Deep.RegionHeld3
namespace Go.Proofs.YtlekjkljajeodaaGreat
open Go.RowKit
attribute [local go_sem ↓] Go.wp_at_zero Go.wp_at_succ
set_option maxRecDepth 100000 in
set_option maxHeartbeats 2000000 in
theorem rdivmod_adj (n1 n2 : Bool) (A1 A2 : Option Addr) (l1 l2 : List Nat) (c1 c2 : Nat) (w : World) (hs1 : Sl w A1 l1 c1) (hs2 : Sl w A2 l2 c2) (hbad : (badL n1 l1 || badL n2 l2) = false) (h0 : l2.length ≠ 0) (hadj : dadj n1 (val l1) n2 (val l2) = true) :
    Calls Tryz.prog 165 #[.agg #[.bool n1, .slice A1 l1.length c1], .agg #[.bool n2, .slice A2 l2.length c2]] w (DRes (dmS n1 l1 n2 l2) w) := by
  have Hs1 := Lib.hid hs1
  have Hs2 := Lib.hid hs2
  have hg := Bool.or_eq_false_iff.1 hbad
  obtain ⟨k1, m1, p1⟩ := good_canon hs1.lim hg.1
  obtain ⟨k2, m2, p2⟩ := good_canon hs2.lim hg.2
  have Hk2 := Lib.hid k2
  have hc := chk2_good hbad
  have h00 : ((l2.length : Int) == 0) = false := by rw [beq_eq_false_iff_ne]; omega
  have hb0 : 0 < val l2 := canon_val_pos k2 (by omega)
  have hne : l2 ≠ [] := fun h => h0 (by rw [h]; rfl)
  have Hres : Hid (dmS n1 l1 n2 l2 = (wOf (dqZ n1 (val l1) n2 (val l2)), wOf (drZ n1 (val l1) n2 (val l2)), 0)) := by unfold Hid dmS; rw [hbad, if_neg (by simp), if_neg h0]
  have hz : (n1 != n2) = (!n1 == n2) := by cases n1 <;> cases n2 <;> rfl
  have hq0 := dmq0 (n1 := n1) (n2 := n2) (l2 := l2) k1 m1
  have hr0 := dmr0 (n1 := n1) (l2 := l2) k1 m1
  have hadj2 := hadj
  unfold dadj at hadj2
  rw [Bool.and_eq_true, decide_eq_true_eq] at hadj2
  have hneq := hadj2.2
  have hyp : 0 < (limbs (val l1 % val l2)).length := limbs_len_pos.2 hadj2.1
  have Hzq := Lib.hid (dm_adj_q hadj)
  have Hzr := Lib.hid (dm_adj_r hb0 hadj)
  have Hfq := Lib.hid (outZ_dq (n1 := n1) (n2 := n2) k1 m1 hb0)
  have Hfr := Lib.hid (outZ_dr (n1 := n1) (n2 := n2) (l1 := l1) k2 m2 hb0)
  rw [Hres.out]
  have Hvx := Lib.hid (val_limbs (val l1 / val l2))
  have Hvy := Lib.hid (val_limbs (val l1 % val l2))
  have Hdiv : Hid (∀ W, Sl W A1 l1 c1 → Sl W A2 l2 c2 → Calls Tryz.prog 197 #[.slice A1 l1.length c1, .slice A2 l2.length c2] W (LRes2 (limbs (val l1 / val l2)) (limbs (val l1 % val l2)) W)) := fun W h1 h2 => over_any A1 A2 l1 l2 c1 c2 W h1 h2 k1 k2 hne (by omega)
  have hqf : (limbs (val l1 / val l2)).length ≤ 4096 := fit_le k1 m1 (Nat.div_le_self _ _)
  have hrf : (limbs (val l1 % val l2)).length ≤ 4096 := fit_le k1 m1 (Nat.mod_le _ _)
  generalize (if n1 != n2 then -((val l1 / val l2 : Nat) : Int) else ((val l1 / val l2 : Nat) : Int)) = z0 at *
  generalize (if n1 then -((val l1 % val l2 : Nat) : Int) else ((val l1 % val l2 : Nat) : Int)) = zr0 at *
  generalize dqZ n1 (val l1) n2 (val l2) = zq at *
  generalize drZ n1 (val l1) n2 (val l2) = zr at *
  have Hc0 := Lib.hid (wOf_canon z0)
  have Hcr0 := Lib.hid (wOf_canon zr0)
  have Hv0 := Lib.hid (zv_wOf z0)
  have Hvr0 := Lib.hid (zv_wOf zr0)
  rw [hz] at hneq hq0
  rw [hneq] at hq0
  have Hq0 := Lib.hid hq0
  have Hr0 := Lib.hid hr0
  have hl0 : (wOf z0).2.length ≤ 4096 := by have := outN_len hq0; exact this
  have hlr0 : (wOf zr0).2.length ≤ 4096 := by have := outN_len hr0; exact this
  generalize limbs (val l1 / val l2) = x at *
  generalize limbs (val l1 % val l2) = y at *
  generalize val l1 / val l2 = qd at *
  generalize val l1 % val l2 = md at *
  generalize hw0 : wOf z0 = q0 at *
  generalize hwr0 : wOf zr0 = r0 at *
  clear hg hbad k1 k2 p1 p2 hs1 hs2 hadj hadj2 hb0 hne Hres hq0 hr0 hz hw0 hwr0
  go_enter Tryz.func165, Tryz.ntmps165
  go_wp2_with fail
  refine (both_any _ _ _ _ _ _ _ _ _ ((((Hs1.out.alloc _).alloc _).alloc _).alloc _) ((((Hs2.out.alloc _).alloc _).alloc _).alloc _)).mono ?_
  rintro e w1 ⟨rfl, hb⟩
  have K1 : Hid (Cw w1 w.heap.size n1 A1 l1.length c1) := ⟨kept_cell hb (by go_simp), kept_cell hb (by go_simp)⟩
  have K2 : Hid (Cw w1 (w.heap.size + 1) n2 A2 l2.length c2) := ⟨kept_cell hb (by go_simp), kept_cell hb (by go_simp)⟩
  have R1 : Hid (Cw w1 (w.heap.size + 1 + 1) false none 0 0) := ⟨kept_cell hb (by go_simp), kept_cell hb (by go_simp)⟩
  have R2 : Hid (Cw w1 (w.heap.size + 1 + 1 + 1) false none 0 0) := ⟨kept_cell hb (by go_simp), kept_cell hb (by go_simp)⟩
  have F1 : Hid (Fw w1 (w.heap.size + 1 + 1)) := ⟨(hb.frozen (by simp <;> omega)).trans (by go_simp), (hb.frozen (by simp <;> omega)).trans (by go_simp)⟩
  have F2 : Hid (Fw w1 (w.heap.size + 1 + 1 + 1)) := ⟨(hb.frozen (by simp <;> omega)).trans (by go_simp), (hb.frozen (by simp <;> omega)).trans (by go_simp)⟩
  have B : Hid (Below w.heap.size w w1) := below_mono (blw4 _ _ _ _ _) hb
  have S1 : Hid (Sl w1 A1 l1 c1) := ((((Hs1.out.alloc _).alloc _).alloc _).alloc _).below hb
  have S2 : Hid (Sl w1 A2 l2 c2) := ((((Hs2.out.alloc _).alloc _).alloc _).alloc _).below hb
  clear hb
  obtain ⟨p0, p1⟩ := K1.out
  obtain ⟨p2, p3⟩ := K2.out
  go_wp2_with fail
  refine (Hdiv.out _ S1.out S2.out).mono ?_
  rintro e w2 ⟨A5, c5, A6, c6, rfl, hs5, hs6, hb⟩
  clear p0 p1 p2 p3
  have S5 := Lib.hid hs5
  have S6 := Lib.hid hs6
  clear hs5 hs6 Hdiv
  replace F1 := kFw F1 R1 hb
  replace F2 := kFw F2 R2 hb
  replace K1 := kW K1 hb
  replace K2 := kW K2 hb
  replace R1 := kW R1 hb
  replace R2 := kW R2 hb
  replace S1 := kS S1 hb
  replace S2 := kS S2 hb
  replace B := kB B hb
  clear hb
  obtain ⟨p0, p1⟩ := K1.out
  obtain ⟨p2, p3⟩ := K2.out
  go_wp2_with fail
  refine (rmade_any _ A5 x c5 _ S5.out).mono ?_
  rw [Hvx.out, Hq0.out]
  rintro e w3 ⟨A7, c7, rfl, hs7, hb⟩
  clear p0 p1 p2 p3
  have S7 := Lib.hid hs7
  clear hs7
  replace F1 := kFw F1 R1 hb
  replace F2 := kFw F2 R2 hb
  replace K1 := kW K1 hb
  replace K2 := kW K2 hb
  replace R1 := kW R1 hb
  replace R2 := kW R2 hb
  replace S1 := kS S1 hb
  replace S2 := kS S2 hb
  replace S5 := kS S5 hb
  replace S6 := kS S6 hb
  replace B := kB B hb
  clear hb
  obtain ⟨p0, p1⟩ := K1.out
  obtain ⟨p2, p3⟩ := K2.out
  have hza : w.heap.size < w3.heap.size := lt_of_cell K1.out.1
  have hzb : w.heap.size + 1 < w3.heap.size := lt_of_cell K2.out.1
  have hzc : w.heap.size + 1 + 1 < w3.heap.size := lt_of_cell R1.out.1
  have hzd : w.heap.size + 1 + 1 + 1 < w3.heap.size := lt_of_cell R2.out.1
  go_wp2_with fail
  refine (rmade_any _ A6 y c6 _ (S6.out.alloc _)).mono ?_
  rw [Hvy.out, Hr0.out]
  rintro e w4 ⟨A8, c8, rfl, hs8, hb⟩
  clear p0 p1 p2 p3
  have S8 := Lib.hid hs8
  have F9 : Hid (Fw w4 w3.heap.size) := Fw.keep (Fw.fresh rfl _ _) (Cw.fresh rfl _ _ _ _ _) hb
  have K9 : Hid (Cw w4 w3.heap.size q0.1 A7 q0.2.length c7) := Cw.keep (Cw.fresh rfl _ _ _ _ _) hb
  clear hs8
  have Hz3 := Lib.hid hzd
  clear hza hzb hzc hzd
  replace F1 := kFw1 F1 R1 hb
  replace F2 := kFw1 F2 R2 hb
  replace K1 := kW1 K1 hb
  replace K2 := kW1 K2 hb
  replace R1 := kW1 R1 hb
  replace R2 := kW1 R2 hb
  replace S1 := kS1 S1 hb
  replace S2 := kS1 S2 hb
  replace S5 := kS1 S5 hb
  replace S6 := kS1 S6 hb
  replace S7 := kS1 S7 hb
  replace B := kB1 B hb
  clear hb
  have hz9 : w3.heap.size < w4.heap.size := lt_of_cell K9.out.1
  have hz3 : w.heap.size + 1 + 1 + 1 < w3.heap.size := Hz3.out
  obtain ⟨p0, p1⟩ := K1.out
  obtain ⟨p2, p3⟩ := K2.out
  have hza : w.heap.size < w4.heap.size := lt_of_cell K1.out.1
  have hzb : w.heap.size + 1 < w4.heap.size := lt_of_cell K2.out.1
  have hzc : w.heap.size + 1 + 1 < w4.heap.size := lt_of_cell R1.out.1
  have hzd : w.heap.size + 1 + 1 + 1 < w4.heap.size := lt_of_cell R2.out.1
  go_wp2_with fail
  clear p0 p1 p2 p3 hza hzb hzc hzd K1 S1 S5 S6
  have K11 : Hid (Cw (w4.alloc (.cells #[.bool r0.1, .slice A8 r0.2.length c8] 65)) w4.heap.size r0.1 A8 r0.2.length c8) := Cw.fresh rfl _ _ _ _ _
  have F11 : Hid (Fw (w4.alloc (.cells #[.bool r0.1, .slice A8 r0.2.length c8] 65)) w4.heap.size) := Fw.fresh rfl _ _
  replace F9 : Hid (Fw (w4.alloc (.cells #[.bool r0.1, .slice A8 r0.2.length c8] 65)) w3.heap.size) := Fw.alloc F9.out K9.out _
  replace F1 : Hid (Fw (w4.alloc (.cells #[.bool r0.1, .slice A8 r0.2.length c8] 65)) (w.heap.size + 1 + 1)) := Fw.alloc F1.out R1.out _
  replace F2 : Hid (Fw (w4.alloc (.cells #[.bool r0.1, .slice A8 r0.2.length c8] 65)) (w.heap.size + 1 + 1 + 1)) := Fw.alloc F2.out R2.out _
  replace K9 : Hid (Cw (w4.alloc (.cells #[.bool r0.1, .slice A8 r0.2.length c8] 65)) w3.heap.size q0.1 A7 q0.2.length c7) := Cw.keep K9.out (blw1 _ _)
  replace K2 : Hid (Cw (w4.alloc (.cells #[.bool r0.1, .slice A8 r0.2.length c8] 65)) (w.heap.size + 1) n2 A2 l2.length c2) := Cw.keep K2.out (blw1 _ _)
  replace R1 : Hid (Cw (w4.alloc (.cells #[.bool r0.1, .slice A8 r0.2.length c8] 65)) (w.heap.size + 1 + 1) false none 0 0) := Cw.keep R1.out (blw1 _ _)
  replace R2 : Hid (Cw (w4.alloc (.cells #[.bool r0.1, .slice A8 r0.2.length c8] 65)) (w.heap.size + 1 + 1 + 1) false none 0 0) := Cw.keep R2.out (blw1 _ _)
  replace S2 : Hid (Sl (w4.alloc (.cells #[.bool r0.1, .slice A8 r0.2.length c8] 65)) A2 l2 c2) := S2.out.alloc _
  replace S7 : Hid (Sl (w4.alloc (.cells #[.bool r0.1, .slice A8 r0.2.length c8] 65)) A7 q0.2 c7) := S7.out.alloc _
  replace S8 : Hid (Sl (w4.alloc (.cells #[.bool r0.1, .slice A8 r0.2.length c8] 65)) A8 r0.2 c8) := S8.out.alloc _
  replace B : Hid (Below w.heap.size w (w4.alloc (.cells #[.bool r0.1, .slice A8 r0.2.length c8] 65))) := below_mono B.out (blw1 _ _)
  have hz11 : w4.heap.size < (w4.alloc (.cells #[.bool r0.1, .slice A8 r0.2.length c8] 65)).heap.size := lt_of_cell K11.out.1
  generalize (w4.alloc (.cells #[.bool r0.1, .slice A8 r0.2.length c8] 65)) = wc at *
  generalize w4.heap.size = g11 at *
  generalize w3.heap.size = g9 at *
  go_cut [10] from 63 to 68 (fun s10 wx => ∃ (A9 : Option Addr) (c9 : Nat), s10 = .int .i64 0 ∧ Cw wx g9 (wOf zq).1 A9 (wOf zq).2.length c9 ∧ Sl wx A9 (wOf zq).2 c9 ∧ Below w.heap.size w wx ∧ Cw wx g11 r0.1 A8 r0.2.length c8 ∧ Fw wx g11 ∧ Fw wx g9 ∧ Cw wx (w.heap.size + 1) n2 A2 l2.length c2 ∧ Sl wx A2 l2 c2 ∧ Sl wx A8 r0.2 c8 ∧ Cw wx (w.heap.size + 1 + 1) false none 0 0 ∧ Cw wx (w.heap.size + 1 + 1 + 1) false none 0 0 ∧ Fw wx (w.heap.size + 1 + 1) ∧ Fw wx (w.heap.size + 1 + 1 + 1))
  case first =>
    obtain ⟨j0, j1⟩ := K9.out
    have Hm1 := Lib.hid (zv_wOf (-1))
    have Hlm : Hid ((wOf (-1)).2.length ≤ 10000) := by unfold Hid; exact Nat.le_trans (Nat.le_of_eq (show (wOf (-1)).2.length = 1 by rfl)) (by omega)
    go_region_with (first
      | (go_at_call 79; refine (rfrom_any (-1) _ (by omega) (by omega)).mono ?_; rintro e v1 ⟨A12, c12, rfl, hs12, hb12⟩; have S12 := Lib.hid hs12; have K9x : Hid (Cw v1 g9 q0.1 A7 q0.2.length c7) := Cw.keep K9.out.drew hb12; have K11x : Hid (Cw v1 g11 r0.1 A8 r0.2.length c8) := Cw.keep K11.out.drew hb12; have K2x : Hid (Cw v1 (w.heap.size + 1) n2 A2 l2.length c2) := Cw.keep K2.out.drew hb12; have R1x : Hid (Cw v1 (w.heap.size + 1 + 1) false none 0 0) := Cw.keep R1.out.drew hb12; have R2x : Hid (Cw v1 (w.heap.size + 1 + 1 + 1) false none 0 0) := Cw.keep R2.out.drew hb12; have F9x : Hid (Fw v1 g9) := Fw.keep F9.out.drew K9.out.drew hb12; have F11x : Hid (Fw v1 g11) := Fw.keep F11.out.drew K11.out.drew hb12; have F1x : Hid (Fw v1 (w.heap.size + 1 + 1)) := Fw.keep F1.out.drew R1.out.drew hb12; have F2x : Hid (Fw v1 (w.heap.size + 1 + 1 + 1)) := Fw.keep F2.out.drew R2.out.drew hb12; have S2x : Hid (Sl v1 A2 l2 c2) := Sl.below S2.out.drew hb12; have S7x : Hid (Sl v1 A7 q0.2 c7) := Sl.below S7.out.drew hb12; have S8x : Hid (Sl v1 A8 r0.2 c8) := Sl.below S8.out.drew hb12; have Bx : Hid (Below w.heap.size w v1) := below_mono B.out.drew hb12; obtain ⟨j2, j3⟩ := K9x.out; clear hs12 hb12)
      | (go_at_call 179; refine (rsum_any _ _ A7 A12 q0.2 (wOf (-1)).2 _ _ _ S7x.out S12.out Hc0.out (canon_limbs _) (Nat.le_trans hl0 (by omega)) Hlm.out).mono ?_; rw [Hv0.out, Hm1.out, Hzq.out, Hfq.out]; rintro e v2 ⟨A9, c9, rfl, hs9, hb9⟩; have S9y := Lib.hid hs9; have K9y : Hid (Cw v2 g9 q0.1 A7 q0.2.length c7) := Cw.keep K9x.out hb9; have K11y : Hid (Cw v2 g11 r0.1 A8 r0.2.length c8) := Cw.keep K11x.out hb9; have K2y : Hid (Cw v2 (w.heap.size + 1) n2 A2 l2.length c2) := Cw.keep K2x.out hb9; have R1y : Hid (Cw v2 (w.heap.size + 1 + 1) false none 0 0) := Cw.keep R1x.out hb9; have R2y : Hid (Cw v2 (w.heap.size + 1 + 1 + 1) false none 0 0) := Cw.keep R2x.out hb9; have F9y : Hid (Fw v2 g9) := Fw.keep F9x.out K9x.out hb9; have F11y : Hid (Fw v2 g11) := Fw.keep F11x.out K11x.out hb9; have F1y : Hid (Fw v2 (w.heap.size + 1 + 1)) := Fw.keep F1x.out R1x.out hb9; have F2y : Hid (Fw v2 (w.heap.size + 1 + 1 + 1)) := Fw.keep F2x.out R2x.out hb9; have S2y : Hid (Sl v2 A2 l2 c2) := Sl.below S2x.out hb9; have S7y : Hid (Sl v2 A7 q0.2 c7) := Sl.below S7x.out hb9; have S8y : Hid (Sl v2 A8 r0.2 c8) := Sl.below S8x.out hb9; have By : Hid (Below w.heap.size w v2) := below_mono Bx.out hb9; obtain ⟨j4, j5⟩ := K9y.out; obtain ⟨j6, j7⟩ := F9y.out; clear hs9 hb9))
    all_goals (go_wp2_with fail; go_meet; exact ⟨A9, c9, rfl, Cw.new K9y.out, S9y.out.setW K9y.out.1 K9y.out.2 _ _, below_setW By.out (by omega) _ _, K11y.out.setW (by omega) _ _, F11y.out.setW _ _, F9y.out.setW _ _, K2y.out.setW (by omega) _ _, S2y.out.setW K9y.out.1 K9y.out.2 _ _, S8y.out.setW K9y.out.1 K9y.out.2 _ _, R1y.out.setW (by omega) _ _, R2y.out.setW (by omega) _ _, F1y.out.setW _ _, F2y.out.setW _ _⟩)
  case rest =>
    clear F1 F2 F9 F11 K2 K9 K11 R1 R2 S2 S7 S8 B Hv0 Hzq Hfq Hc0 Hq0
    obtain ⟨A9, c9, rfl, k9, s9, b, k11, f11, f9, k2, s2, s8, r1, r2, f1, f2⟩ := hcut
    generalize hwq : wOf zq = rq at *
    have K9 := Lib.hid k9
    have S9 := Lib.hid s9
    have B := Lib.hid b
    have K11 := Lib.hid k11
    have F11 := Lib.hid f11
    have K2 := Lib.hid k2
    have S2 := Lib.hid s2
    have S8 := Lib.hid s8
    have R1 := Lib.hid r1
    have R2 := Lib.hid r2
    have F1 := Lib.hid f1
    have F2 := Lib.hid f2
    clear k9 s9 b k11 f11 f9 k2 s2 s8 r1 r2 f1 f2 hwq
    obtain ⟨p0, p1⟩ := K11.out
    obtain ⟨p2, p3⟩ := K2.out
    go_wp2_with fail
    refine (rsum_any _ _ A8 A2 r0.2 l2 _ _ _ S8.out S2.out Hcr0.out Hk2.out (by omega) (by omega)).mono ?_
    rw [Hvr0.out, Hzr.out, Hfr.out]
    rintro e v3 ⟨A10, c10, rfl, hs10, hb⟩
    generalize wOf zr = rr at *
    clear p0 p1 p2 p3
    have S10 := Lib.hid hs10
    replace F11 := kFw F11 K11 hb
    replace F1 := kFw F1 R1 hb
    replace F2 := kFw F2 R2 hb
    replace K9 := kW K9 hb
    replace K11 := kW K11 hb
    replace R1 := kW R1 hb
    replace R2 := kW R2 hb
    replace S9 := kS S9 hb
    replace B := kB B hb
    clear hb hs10 K2 S2 S8
    obtain ⟨p0, p1⟩ := K11.out
    obtain ⟨p2, p3⟩ := F11.out
    go_wp2_with fail
    clear p0 p1 p2 p3
    have X9 : Hid (Cw ((v3.setCell ⟨g11, 0, none⟩ (.bool rr.1)).setCell ⟨g11, 1, none⟩ (.slice A10 rr.2.length c10)) g9 rq.1 A9 rq.2.length c9) := Cw.setW K9.out (by omega) _ _
    have X11 : Hid (Cw ((v3.setCell ⟨g11, 0, none⟩ (.bool rr.1)).setCell ⟨g11, 1, none⟩ (.slice A10 rr.2.length c10)) g11 rr.1 A10 rr.2.length c10) := Cw.new K11.out
    have X1 : Hid (Cw ((v3.setCell ⟨g11, 0, none⟩ (.bool rr.1)).setCell ⟨g11, 1, none⟩ (.slice A10 rr.2.length c10)) (w.heap.size + 1 + 1) false none 0 0) := Cw.setW R1.out (by omega) _ _
    have X2 : Hid (Cw ((v3.setCell ⟨g11, 0, none⟩ (.bool rr.1)).setCell ⟨g11, 1, none⟩ (.slice A10 rr.2.length c10)) (w.heap.size + 1 + 1 + 1) false none 0 0) := Cw.setW R2.out (by omega) _ _
    have Y1 : Hid (Fw ((v3.setCell ⟨g11, 0, none⟩ (.bool rr.1)).setCell ⟨g11, 1, none⟩ (.slice A10 rr.2.length c10)) (w.heap.size + 1 + 1)) := Fw.setW F1.out _ _
    have Y2 : Hid (Fw ((v3.setCell ⟨g11, 0, none⟩ (.bool rr.1)).setCell ⟨g11, 1, none⟩ (.slice A10 rr.2.length c10)) (w.heap.size + 1 + 1 + 1)) := Fw.setW F2.out _ _
    have Z9 : Hid (Sl ((v3.setCell ⟨g11, 0, none⟩ (.bool rr.1)).setCell ⟨g11, 1, none⟩ (.slice A10 rr.2.length c10)) A9 rq.2 c9) := S9.out.setW K11.out.1 K11.out.2 _ _
    have Z10 : Hid (Sl ((v3.setCell ⟨g11, 0, none⟩ (.bool rr.1)).setCell ⟨g11, 1, none⟩ (.slice A10 rr.2.length c10)) A10 rr.2 c10) := S10.out.setW K11.out.1 K11.out.2 _ _
    have C : Hid (Below w.heap.size w ((v3.setCell ⟨g11, 0, none⟩ (.bool rr.1)).setCell ⟨g11, 1, none⟩ (.slice A10 rr.2.length c10))) := below_setW B.out (by omega) _ _
    generalize ((v3.setCell ⟨g11, 0, none⟩ (.bool rr.1)).setCell ⟨g11, 1, none⟩ (.slice A10 rr.2.length c10)) = wS at *
    clear K9 K11 R1 R2 F1 F2 S9 S10 B F11
    obtain ⟨f0, f1⟩ := Y1.out
    obtain ⟨f2, f3⟩ := Y2.out
    obtain ⟨r0, r1⟩ := X1.out
    obtain ⟨r2, r3⟩ := X2.out
    obtain ⟨r4, r5⟩ := X9.out
    obtain ⟨r6, r7⟩ := X11.out
    go_region
    all_goals go_wp2
    all_goals exact bodyPost_ret (v := .tuple #[.agg #[.bool rq.1, .slice A9 rq.2.length c9], .agg #[.bool rr.1, .slice A10 rr.2.length c10], .int .i64 0]) (by simp [results, Tryz.results165, go_sem, r0, r1, r2, r3]) rfl (dres_end (r := (rq, rr, 0)) Z9.out Z10.out X1.out X2.out C.out (by omega) (by omega) (by omega))

set_option maxRecDepth 100000 in
set_option maxHeartbeats 2000000 in
theorem rdivmod_same (n1 n2 : Bool) (A1 A2 : Option Addr) (l1 l2 : List Nat) (c1 c2 : Nat) (w : World) (hs1 : Sl w A1 l1 c1) (hs2 : Sl w A2 l2 c2) (hbad : (badL n1 l1 || badL n2 l2) = false) (h0 : l2.length ≠ 0) (hadj : dadj n1 (val l1) n2 (val l2) = false) :
    Calls Tryz.prog 165 #[.agg #[.bool n1, .slice A1 l1.length c1], .agg #[.bool n2, .slice A2 l2.length c2]] w (DRes (dmS n1 l1 n2 l2) w) := by
  have Hs1 := Lib.hid hs1
  have Hs2 := Lib.hid hs2
  have hg := Bool.or_eq_false_iff.1 hbad
  obtain ⟨k1, m1, p1⟩ := good_canon hs1.lim hg.1
  obtain ⟨k2, m2, p2⟩ := good_canon hs2.lim hg.2
  have Hk2 := Lib.hid k2
  have hc := chk2_good hbad
  have h00 : ((l2.length : Int) == 0) = false := by rw [beq_eq_false_iff_ne]; omega
  have hb0 : 0 < val l2 := canon_val_pos k2 (by omega)
  have hne : l2 ≠ [] := fun h => h0 (by rw [h]; rfl)
  have Hres : Hid (dmS n1 l1 n2 l2 = (wOf (dqZ n1 (val l1) n2 (val l2)), wOf (drZ n1 (val l1) n2 (val l2)), 0)) := by unfold Hid dmS; rw [hbad, if_neg (by simp), if_neg h0]
  have hz : (n1 != n2) = (!n1 == n2) := by cases n1 <;> cases n2 <;> rfl
  have hq0 := dmq0 (n1 := n1) (n2 := n2) (l2 := l2) k1 m1
  have hr0 := dmr0 (n1 := n1) (l2 := l2) k1 m1
  have Hqe : Hid ((wOf (dqZ n1 (val l1) n2 (val l2)), wOf (drZ n1 (val l1) n2 (val l2)), (0 : Int)) = (wOf (if n1 != n2 then -((val l1 / val l2 : Nat) : Int) else ((val l1 / val l2 : Nat) : Int)), wOf (if n1 then -((val l1 % val l2 : Nat) : Int) else ((val l1 % val l2 : Nat) : Int)), 0)) := by unfold Hid; rw [dm_same_q hadj, dm_same_r hadj]
  have Hcase : Hid (0 < (limbs (val l1 % val l2)).length → (!n1 == n2) = false) := by
    intro h
    unfold dadj at hadj
    rw [decide_eq_true (limbs_len_pos.1 h)] at hadj
    revert hadj
    cases n1 <;> cases n2 <;> simp
  rw [Hres.out, Hqe.out]
  have Hvx := Lib.hid (val_limbs (val l1 / val l2))
  have Hvy := Lib.hid (val_limbs (val l1 % val l2))
  have Hdiv : Hid (∀ W, Sl W A1 l1 c1 → Sl W A2 l2 c2 → Calls Tryz.prog 197 #[.slice A1 l1.length c1, .slice A2 l2.length c2] W (LRes2 (limbs (val l1 / val l2)) (limbs (val l1 % val l2)) W)) := fun W h1 h2 => over_any A1 A2 l1 l2 c1 c2 W h1 h2 k1 k2 hne (by omega)
  generalize (if n1 != n2 then -((val l1 / val l2 : Nat) : Int) else ((val l1 / val l2 : Nat) : Int)) = z0 at *
  generalize (if n1 then -((val l1 % val l2 : Nat) : Int) else ((val l1 % val l2 : Nat) : Int)) = zr0 at *
  rw [hz] at hq0
  have Hq0 := Lib.hid hq0
  have Hr0 := Lib.hid hr0
  generalize limbs (val l1 / val l2) = x at *
  generalize limbs (val l1 % val l2) = y at *
  generalize val l1 / val l2 = qd at *
  generalize val l1 % val l2 = md at *
  generalize wOf z0 = q0 at *
  generalize wOf zr0 = r0 at *
  clear hg hbad k1 k2 p1 p2 hs1 hs2 hadj hb0 hne Hres hq0 hr0 hz Hqe Hk2
  go_enter Tryz.func165, Tryz.ntmps165
  go_wp2_with fail
  refine (both_any _ _ _ _ _ _ _ _ _ ((((Hs1.out.alloc _).alloc _).alloc _).alloc _) ((((Hs2.out.alloc _).alloc _).alloc _).alloc _)).mono ?_
  rintro e w1 ⟨rfl, hb⟩
  have K1 : Hid (Cw w1 w.heap.size n1 A1 l1.length c1) := ⟨kept_cell hb (by go_simp), kept_cell hb (by go_simp)⟩
  have K2 : Hid (Cw w1 (w.heap.size + 1) n2 A2 l2.length c2) := ⟨kept_cell hb (by go_simp), kept_cell hb (by go_simp)⟩
  have R1 : Hid (Cw w1 (w.heap.size + 1 + 1) false none 0 0) := ⟨kept_cell hb (by go_simp), kept_cell hb (by go_simp)⟩
  have R2 : Hid (Cw w1 (w.heap.size + 1 + 1 + 1) false none 0 0) := ⟨kept_cell hb (by go_simp), kept_cell hb (by go_simp)⟩
  have F1 : Hid (Fw w1 (w.heap.size + 1 + 1)) := ⟨(hb.frozen (by simp <;> omega)).trans (by go_simp), (hb.frozen (by simp <;> omega)).trans (by go_simp)⟩
  have F2 : Hid (Fw w1 (w.heap.size + 1 + 1 + 1)) := ⟨(hb.frozen (by simp <;> omega)).trans (by go_simp), (hb.frozen (by simp <;> omega)).trans (by go_simp)⟩
  have B : Hid (Below w.heap.size w w1) := below_mono (blw4 _ _ _ _ _) hb
  have S1 : Hid (Sl w1 A1 l1 c1) := ((((Hs1.out.alloc _).alloc _).alloc _).alloc _).below hb
  have S2 : Hid (Sl w1 A2 l2 c2) := ((((Hs2.out.alloc _).alloc _).alloc _).alloc _).below hb
  clear hb
  obtain ⟨p0, p1⟩ := K1.out
  obtain ⟨p2, p3⟩ := K2.out
  go_wp2_with fail
  refine (Hdiv.out _ S1.out S2.out).mono ?_
  rintro e w2 ⟨A5, c5, A6, c6, rfl, hs5, hs6, hb⟩
  clear p0 p1 p2 p3
  have S5 := Lib.hid hs5
  have S6 := Lib.hid hs6
  clear hs5 hs6 Hdiv
  replace F1 := kFw F1 R1 hb
  replace F2 := kFw F2 R2 hb
  replace K1 := kW K1 hb
  replace K2 := kW K2 hb
  replace R1 := kW R1 hb
  replace R2 := kW R2 hb
  replace S1 := kS S1 hb
  replace S2 := kS S2 hb
  replace B := kB B hb
  clear hb
  by_cases hyp : 0 < y.length
  · have hneq := Hcase.out hyp
    rw [hneq] at Hq0
    obtain ⟨p0, p1⟩ := K1.out
    obtain ⟨p2, p3⟩ := K2.out
    go_wp2_with fail
    refine (rmade_any _ A5 x c5 _ S5.out).mono ?_
    rw [Hvx.out, Hq0.out]
    rintro e w3 ⟨A7, c7, rfl, hs7, hb⟩
    clear p0 p1 p2 p3
    have S7 := Lib.hid hs7
    clear hs7
    replace F1 := kFw F1 R1 hb
    replace F2 := kFw F2 R2 hb
    replace K1 := kW K1 hb
    replace K2 := kW K2 hb
    replace R1 := kW R1 hb
    replace R2 := kW R2 hb
    replace S1 := kS S1 hb
    replace S2 := kS S2 hb
    replace S5 := kS S5 hb
    replace S6 := kS S6 hb
    replace B := kB B hb
    clear hb
    obtain ⟨p0, p1⟩ := K1.out
    obtain ⟨p2, p3⟩ := K2.out
    have hza : w.heap.size < w3.heap.size := lt_of_cell K1.out.1
    have hzb : w.heap.size + 1 < w3.heap.size := lt_of_cell K2.out.1
    have hzc : w.heap.size + 1 + 1 < w3.heap.size := lt_of_cell R1.out.1
    have hzd : w.heap.size + 1 + 1 + 1 < w3.heap.size := lt_of_cell R2.out.1
    go_wp2_with fail
    refine (rmade_any _ A6 y c6 _ (S6.out.alloc _)).mono ?_
    rw [Hvy.out, Hr0.out]
    rintro e w4 ⟨A8, c8, rfl, hs8, hb⟩
    clear p0 p1 p2 p3
    have S8 := Lib.hid hs8
    have K9 : Hid (Cw w4 w3.heap.size q0.1 A7 q0.2.length c7) := Cw.keep (Cw.fresh rfl _ _ _ _ _) hb
    clear hs8
    have Hz3 := Lib.hid hzd
    clear hza hzb hzc hzd
    replace F1 := kFw1 F1 R1 hb
    replace F2 := kFw1 F2 R2 hb
    replace K1 := kW1 K1 hb
    replace K2 := kW1 K2 hb
    replace R1 := kW1 R1 hb
    replace R2 := kW1 R2 hb
    replace S1 := kS1 S1 hb
    replace S2 := kS1 S2 hb
    replace S5 := kS1 S5 hb
    replace S6 := kS1 S6 hb
    replace S7 := kS1 S7 hb
    replace B := kB1 B hb
    clear hb
    have hz9 : w3.heap.size < w4.heap.size := lt_of_cell K9.out.1
    have hz3 : w.heap.size + 1 + 1 + 1 < w3.heap.size := Hz3.out
    obtain ⟨p0, p1⟩ := K1.out
    obtain ⟨p2, p3⟩ := K2.out
    have hza : w.heap.size < w4.heap.size := lt_of_cell K1.out.1
    have hzb : w.heap.size + 1 < w4.heap.size := lt_of_cell K2.out.1
    have hzc : w.heap.size + 1 + 1 < w4.heap.size := lt_of_cell R1.out.1
    have hzd : w.heap.size + 1 + 1 + 1 < w4.heap.size := lt_of_cell R2.out.1
    go_wp2_with fail
    clear p0 p1 p2 p3 hza hzb hzc hzd K1 S1 S5 S6
    have X11 : Hid (Cw (w4.alloc (.cells #[.bool r0.1, .slice A8 r0.2.length c8] 65)) w4.heap.size r0.1 A8 r0.2.length c8) := Cw.fresh rfl _ _ _ _ _
    have Y1 : Hid (Fw (w4.alloc (.cells #[.bool r0.1, .slice A8 r0.2.length c8] 65)) (w.heap.size + 1 + 1)) := Fw.alloc F1.out R1.out _
    have Y2 : Hid (Fw (w4.alloc (.cells #[.bool r0.1, .slice A8 r0.2.length c8] 65)) (w.heap.size + 1 + 1 + 1)) := Fw.alloc F2.out R2.out _
    have X9 : Hid (Cw (w4.alloc (.cells #[.bool r0.1, .slice A8 r0.2.length c8] 65)) w3.heap.size q0.1 A7 q0.2.length c7) := Cw.keep K9.out (blw1 _ _)
    have X1 : Hid (Cw (w4.alloc (.cells #[.bool r0.1, .slice A8 r0.2.length c8] 65)) (w.heap.size + 1 + 1) false none 0 0) := Cw.keep R1.out (blw1 _ _)
    have X2 : Hid (Cw (w4.alloc (.cells #[.bool r0.1, .slice A8 r0.2.length c8] 65)) (w.heap.size + 1 + 1 + 1) false none 0 0) := Cw.keep R2.out (blw1 _ _)
    have Z7 : Hid (Sl (w4.alloc (.cells #[.bool r0.1, .slice A8 r0.2.length c8] 65)) A7 q0.2 c7) := S7.out.alloc _
    have Z8 : Hid (Sl (w4.alloc (.cells #[.bool r0.1, .slice A8 r0.2.length c8] 65)) A8 r0.2 c8) := S8.out.alloc _
    have C : Hid (Below w.heap.size w (w4.alloc (.cells #[.bool r0.1, .slice A8 r0.2.length c8] 65))) := below_mono B.out (blw1 _ _)
    have hz11 : w4.heap.size < (w4.alloc (.cells #[.bool r0.1, .slice A8 r0.2.length c8] 65)).heap.size := lt_of_cell X11.out.1
    generalize (w4.alloc (.cells #[.bool r0.1, .slice A8 r0.2.length c8] 65)) = wS at *
    generalize w4.heap.size = g11 at *
    generalize w3.heap.size = g9 at *
    clear K2 K9 R1 R2 F1 F2 S2 S7 S8 B
    obtain ⟨f0, f1⟩ := Y1.out
    obtain ⟨f2, f3⟩ := Y2.out
    obtain ⟨r0', r1⟩ := X1.out
    obtain ⟨r2, r3⟩ := X2.out
    obtain ⟨r4, r5⟩ := X9.out
    obtain ⟨r6, r7⟩ := X11.out
    go_region
    all_goals go_wp2
    all_goals exact bodyPost_ret (v := .tuple #[.agg #[.bool q0.1, .slice A7 q0.2.length c7], .agg #[.bool r0.1, .slice A8 r0.2.length c8], .int .i64 0]) (by simp [results, Tryz.results165, go_sem, r0', r1, r2, r3]) rfl (dres_end (r := (q0, r0, 0)) Z7.out Z8.out X1.out X2.out C.out (by omega) (by omega) (by omega))
  · have hyz : decide ((0 : Int) < (y.length : Int)) = false := decide_eq_false (by omega)
    obtain ⟨p0, p1⟩ := K1.out
    obtain ⟨p2, p3⟩ := K2.out
    go_wp2_with fail
    refine (rmade_any _ A5 x c5 _ S5.out).mono ?_
    rw [Hvx.out, Hq0.out]
    rintro e w3 ⟨A7, c7, rfl, hs7, hb⟩
    clear p0 p1 p2 p3
    have S7 := Lib.hid hs7
    clear hs7
    replace F1 := kFw F1 R1 hb
    replace F2 := kFw F2 R2 hb
    replace K1 := kW K1 hb
    replace K2 := kW K2 hb
    replace R1 := kW R1 hb
    replace R2 := kW R2 hb
    replace S1 := kS S1 hb
    replace S2 := kS S2 hb
    replace S5 := kS S5 hb
    replace S6 := kS S6 hb
    replace B := kB B hb
    clear hb
    obtain ⟨p0, p1⟩ := K1.out
    obtain ⟨p2, p3⟩ := K2.out
    have hza : w.heap.size < w3.heap.size := lt_of_cell K1.out.1
    have hzb : w.heap.size + 1 < w3.heap.size := lt_of_cell K2.out.1
    have hzc : w.heap.size + 1 + 1 < w3.heap.size := lt_of_cell R1.out.1
    have hzd : w.heap.size + 1 + 1 + 1 < w3.heap.size := lt_of_cell R2.out.1
    go_wp2_with fail
    refine (rmade_any _ A6 y c6 _ (S6.out.alloc _)).mono ?_
    rw [Hvy.out, Hr0.out]
    rintro e w4 ⟨A8, c8, rfl, hs8, hb⟩
    clear p0 p1 p2 p3
    have S8 := Lib.hid hs8
    have K9 : Hid (Cw w4 w3.heap.size q0.1 A7 q0.2.length c7) := Cw.keep (Cw.fresh rfl _ _ _ _ _) hb
    clear hs8
    have Hz3 := Lib.hid hzd
    clear hza hzb hzc hzd
    replace F1 := kFw1 F1 R1 hb
    replace F2 := kFw1 F2 R2 hb
    replace K1 := kW1 K1 hb
    replace K2 := kW1 K2 hb
    replace R1 := kW1 R1 hb
    replace R2 := kW1 R2 hb
    replace S1 := kS1 S1 hb
    replace S2 := kS1 S2 hb
    replace S5 := kS1 S5 hb
    replace S6 := kS1 S6 hb
    replace S7 := kS1 S7 hb
    replace B := kB1 B hb
    clear hb
    have hz9 : w3.heap.size < w4.heap.size := lt_of_cell K9.out.1
    have hz3 : w.heap.size + 1 + 1 + 1 < w3.heap.size := Hz3.out
    obtain ⟨p0, p1⟩ := K1.out
    obtain ⟨p2, p3⟩ := K2.out
    have hza : w.heap.size < w4.heap.size := lt_of_cell K1.out.1
    have hzb : w.heap.size + 1 < w4.heap.size := lt_of_cell K2.out.1
    have hzc : w.heap.size + 1 + 1 < w4.heap.size := lt_of_cell R1.out.1
    have hzd : w.heap.size + 1 + 1 + 1 < w4.heap.size := lt_of_cell R2.out.1
    go_wp2_with fail
    clear p0 p1 p2 p3 hza hzb hzc hzd K1 S1 S5 S6
    have X11 : Hid (Cw (w4.alloc (.cells #[.bool r0.1, .slice A8 r0.2.length c8] 65)) w4.heap.size r0.1 A8 r0.2.length c8) := Cw.fresh rfl _ _ _ _ _
    have Y1 : Hid (Fw (w4.alloc (.cells #[.bool r0.1, .slice A8 r0.2.length c8] 65)) (w.heap.size + 1 + 1)) := Fw.alloc F1.out R1.out _
    have Y2 : Hid (Fw (w4.alloc (.cells #[.bool r0.1, .slice A8 r0.2.length c8] 65)) (w.heap.size + 1 + 1 + 1)) := Fw.alloc F2.out R2.out _
    have X9 : Hid (Cw (w4.alloc (.cells #[.bool r0.1, .slice A8 r0.2.length c8] 65)) w3.heap.size q0.1 A7 q0.2.length c7) := Cw.keep K9.out (blw1 _ _)
    have X1 : Hid (Cw (w4.alloc (.cells #[.bool r0.1, .slice A8 r0.2.length c8] 65)) (w.heap.size + 1 + 1) false none 0 0) := Cw.keep R1.out (blw1 _ _)
    have X2 : Hid (Cw (w4.alloc (.cells #[.bool r0.1, .slice A8 r0.2.length c8] 65)) (w.heap.size + 1 + 1 + 1) false none 0 0) := Cw.keep R2.out (blw1 _ _)
    have Z7 : Hid (Sl (w4.alloc (.cells #[.bool r0.1, .slice A8 r0.2.length c8] 65)) A7 q0.2 c7) := S7.out.alloc _
    have Z8 : Hid (Sl (w4.alloc (.cells #[.bool r0.1, .slice A8 r0.2.length c8] 65)) A8 r0.2 c8) := S8.out.alloc _
    have C : Hid (Below w.heap.size w (w4.alloc (.cells #[.bool r0.1, .slice A8 r0.2.length c8] 65))) := below_mono B.out (blw1 _ _)
    have hz11 : w4.heap.size < (w4.alloc (.cells #[.bool r0.1, .slice A8 r0.2.length c8] 65)).heap.size := lt_of_cell X11.out.1
    generalize (w4.alloc (.cells #[.bool r0.1, .slice A8 r0.2.length c8] 65)) = wS at *
    generalize w4.heap.size = g11 at *
    generalize w3.heap.size = g9 at *
    clear K2 K9 R1 R2 F1 F2 S2 S7 S8 B
    obtain ⟨f0, f1⟩ := Y1.out
    obtain ⟨f2, f3⟩ := Y2.out
    obtain ⟨r0', r1⟩ := X1.out
    obtain ⟨r2, r3⟩ := X2.out
    obtain ⟨r4, r5⟩ := X9.out
    obtain ⟨r6, r7⟩ := X11.out
    go_region
    all_goals go_wp2
    all_goals exact bodyPost_ret (v := .tuple #[.agg #[.bool q0.1, .slice A7 q0.2.length c7], .agg #[.bool r0.1, .slice A8 r0.2.length c8], .int .i64 0]) (by simp [results, Tryz.results165, go_sem, r0', r1, r2, r3]) rfl (dres_end (r := (q0, r0, 0)) Z7.out Z8.out X1.out X2.out C.out (by omega) (by omega) (by omega))

set_option maxRecDepth 100000 in
set_option maxHeartbeats 2000000 in
theorem rdivmod_bad (n1 n2 : Bool) (A1 A2 : Option Addr) (l1 l2 : List Nat) (c1 c2 : Nat) (w : World) (hs1 : Sl w A1 l1 c1) (hs2 : Sl w A2 l2 c2) (hbad : (badL n1 l1 || badL n2 l2) = true) :
    Calls Tryz.prog 165 #[.agg #[.bool n1, .slice A1 l1.length c1], .agg #[.bool n2, .slice A2 l2.length c2]] w (DRes (dmS n1 l1 n2 l2) w) := by
  have Hs1 := Lib.hid hs1
  have Hs2 := Lib.hid hs2
  have hr : dmS n1 l1 n2 l2 = ((false, []), (false, []), 8) := by rw [dmS, hbad, if_pos rfl]
  have hc := chk2_bad hbad
  rw [hr]
  clear hr hbad
  clear hs1 hs2
  go_enter Tryz.func165, Tryz.ntmps165
  go_wp2_with fail
  refine (both_any _ _ _ _ _ _ _ _ _ ((((Hs1.out.alloc _).alloc _).alloc _).alloc _) ((((Hs2.out.alloc _).alloc _).alloc _).alloc _)).mono ?_
  rintro e w1 ⟨rfl, hb⟩
  have K1 : Hid (Cw w1 w.heap.size n1 A1 l1.length c1) := ⟨kept_cell hb (by go_simp), kept_cell hb (by go_simp)⟩
  have K2 : Hid (Cw w1 (w.heap.size + 1) n2 A2 l2.length c2) := ⟨kept_cell hb (by go_simp), kept_cell hb (by go_simp)⟩
  have R1 : Hid (Cw w1 (w.heap.size + 1 + 1) false none 0 0) := ⟨kept_cell hb (by go_simp), kept_cell hb (by go_simp)⟩
  have R2 : Hid (Cw w1 (w.heap.size + 1 + 1 + 1) false none 0 0) := ⟨kept_cell hb (by go_simp), kept_cell hb (by go_simp)⟩
  have F1 : Hid (Fw w1 (w.heap.size + 1 + 1)) := ⟨(hb.frozen (by simp <;> omega)).trans (by go_simp), (hb.frozen (by simp <;> omega)).trans (by go_simp)⟩
  have F2 : Hid (Fw w1 (w.heap.size + 1 + 1 + 1)) := ⟨(hb.frozen (by simp <;> omega)).trans (by go_simp), (hb.frozen (by simp <;> omega)).trans (by go_simp)⟩
  have B : Hid (Below w.heap.size w w1) := below_mono (blw4 _ _ _ _ _) hb
  have S1 : Hid (Sl w1 A1 l1 c1) := ((((Hs1.out.alloc _).alloc _).alloc _).alloc _).below hb
  have S2 : Hid (Sl w1 A2 l2 c2) := ((((Hs2.out.alloc _).alloc _).alloc _).alloc _).below hb
  clear hb
  obtain ⟨p0, p1⟩ := K1.out
  obtain ⟨p2, p3⟩ := K2.out
  go_wp2_with fail
  refine (both_any _ _ _ _ _ _ _ _ _ S1.out S2.out).mono ?_
  rintro e w2 ⟨rfl, hb⟩
  clear p0 p1 p2 p3
  replace F1 := kFw F1 R1 hb
  replace F2 := kFw F2 R2 hb
  replace K1 := kW K1 hb
  replace K2 := kW K2 hb
  replace R1 := kW R1 hb
  replace R2 := kW R2 hb
  replace S1 := kS S1 hb
  replace S2 := kS S2 hb
  replace B := kB B hb
  clear hb
  obtain ⟨f0, f1⟩ := F1.out
  obtain ⟨f2, f3⟩ := F2.out
  obtain ⟨r0, r1⟩ := R1.out
  obtain ⟨r2, r3⟩ := R2.out
  go_wp2
  exact bodyPost_ret (v := .tuple #[.agg #[.bool false, .slice none 0 0], .agg #[.bool false, .slice none 0 0], .int .i64 8]) (by simp [results, Tryz.results165, go_sem, r0, r1, r2, r3]) rfl (dres_bad 8 B.out (by omega) (by omega))

set_option maxRecDepth 100000 in
set_option maxHeartbeats 2000000 in
theorem rdivmod_zero (n1 n2 : Bool) (A1 A2 : Option Addr) (l1 l2 : List Nat) (c1 c2 : Nat) (w : World) (hs1 : Sl w A1 l1 c1) (hs2 : Sl w A2 l2 c2) (hbad : (badL n1 l1 || badL n2 l2) = false) (h0 : l2.length = 0) :
    Calls Tryz.prog 165 #[.agg #[.bool n1, .slice A1 l1.length c1], .agg #[.bool n2, .slice A2 l2.length c2]] w (DRes (dmS n1 l1 n2 l2) w) := by
  have Hs1 := Lib.hid hs1
  have Hs2 := Lib.hid hs2
  have hr : dmS n1 l1 n2 l2 = ((false, []), (false, []), 18) := by rw [dmS, hbad, if_neg (by simp), if_pos h0]
  have hc := chk2_good hbad
  rw [hr]
  have h00 : ((l2.length : Int) == 0) = true := by rw [beq_iff_eq]; omega
  clear hr hbad h0
  clear hs1 hs2
  go_enter Tryz.func165, Tryz.ntmps165
  go_wp2_with fail
  refine (both_any _ _ _ _ _ _ _ _ _ ((((Hs1.out.alloc _).alloc _).alloc _).alloc _) ((((Hs2.out.alloc _).alloc _).alloc _).alloc _)).mono ?_
  rintro e w1 ⟨rfl, hb⟩
  have K1 : Hid (Cw w1 w.heap.size n1 A1 l1.length c1) := ⟨kept_cell hb (by go_simp), kept_cell hb (by go_simp)⟩
  have K2 : Hid (Cw w1 (w.heap.size + 1) n2 A2 l2.length c2) := ⟨kept_cell hb (by go_simp), kept_cell hb (by go_simp)⟩
  have R1 : Hid (Cw w1 (w.heap.size + 1 + 1) false none 0 0) := ⟨kept_cell hb (by go_simp), kept_cell hb (by go_simp)⟩
  have R2 : Hid (Cw w1 (w.heap.size + 1 + 1 + 1) false none 0 0) := ⟨kept_cell hb (by go_simp), kept_cell hb (by go_simp)⟩
  have F1 : Hid (Fw w1 (w.heap.size + 1 + 1)) := ⟨(hb.frozen (by simp <;> omega)).trans (by go_simp), (hb.frozen (by simp <;> omega)).trans (by go_simp)⟩
  have F2 : Hid (Fw w1 (w.heap.size + 1 + 1 + 1)) := ⟨(hb.frozen (by simp <;> omega)).trans (by go_simp), (hb.frozen (by simp <;> omega)).trans (by go_simp)⟩
  have B : Hid (Below w.heap.size w w1) := below_mono (blw4 _ _ _ _ _) hb
  have S1 : Hid (Sl w1 A1 l1 c1) := ((((Hs1.out.alloc _).alloc _).alloc _).alloc _).below hb
  have S2 : Hid (Sl w1 A2 l2 c2) := ((((Hs2.out.alloc _).alloc _).alloc _).alloc _).below hb
  clear hb
  obtain ⟨p0, p1⟩ := K1.out
  obtain ⟨p2, p3⟩ := K2.out

  obtain ⟨f0, f1⟩ := F1.out
  obtain ⟨f2, f3⟩ := F2.out
  obtain ⟨r0, r1⟩ := R1.out
  obtain ⟨r2, r3⟩ := R2.out
  go_wp2
  exact bodyPost_ret (v := .tuple #[.agg #[.bool false, .slice none 0 0], .agg #[.bool false, .slice none 0 0], .int .i64 18]) (by simp [results, Tryz.results165, go_sem, r0, r1, r2, r3]) rfl (dres_bad 18 B.out (by omega) (by omega))

theorem rdivmod_any (n1 n2 : Bool) (A1 A2 : Option Addr) (l1 l2 : List Nat) (c1 c2 : Nat) (w : World) (hs1 : Sl w A1 l1 c1) (hs2 : Sl w A2 l2 c2) :
    Calls Tryz.prog 165 #[.agg #[.bool n1, .slice A1 l1.length c1], .agg #[.bool n2, .slice A2 l2.length c2]] w (DRes (dmS n1 l1 n2 l2) w) := by
  cases hbad : badL n1 l1 || badL n2 l2
  · by_cases h0 : l2.length = 0
    · exact rdivmod_zero n1 n2 A1 A2 l1 l2 c1 c2 w hs1 hs2 hbad h0
    · cases hadj : dadj n1 (val l1) n2 (val l2)
      · exact rdivmod_same n1 n2 A1 A2 l1 l2 c1 c2 w hs1 hs2 hbad h0 hadj
      · exact rdivmod_adj n1 n2 A1 A2 l1 l2 c1 c2 w hs1 hs2 hbad h0 hadj
  · exact rdivmod_bad n1 n2 A1 A2 l1 l2 c1 c2 w hs1 hs2 hbad

end Go.Proofs.YtlekjkljajeodaaGreat

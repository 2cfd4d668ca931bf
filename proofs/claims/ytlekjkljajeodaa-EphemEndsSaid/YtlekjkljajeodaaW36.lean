import Derived.Test.YtlekjkljajeodaaW19
import Derived.Test.YtlekjkljajeodaaW30
import Derived.Test.YtlekjkljajeodaaW11
import Derived.Test.YtlekjkljajeodaaMem
import Derived.Test.YtlekjkljajeodaaMath
/- Walks: wide.DivMod. -/
namespace Go.Proofs.Ytlekjkljajeodaa
open Go.RowKit
attribute [local go_sem ↓] Go.wp_at_zero Go.wp_at_succ
set_option maxRecDepth 100000 in
set_option maxHeartbeats 2000000 in
theorem wdivmod_adj (n1 n2 : Bool) (A1 A2 : Option Addr) (l1 l2 : List Nat) (c1 c2 : Nat) (w : World) (hs1 : Sl w A1 l1 c1) (hs2 : Sl w A2 l2 c2) (hbad : (badL n1 l1 || badL n2 l2) = false) (h0 : l2.length ≠ 0) (hadj : dadj n1 (val l1) n2 (val l2) = true) :
    Calls Try.prog 56 #[.agg #[.bool n1, .slice A1 l1.length c1], .agg #[.bool n2, .slice A2 l2.length c2]] w (DRes (dmS n1 l1 n2 l2) w) := by
  have Hs1 := Lib.hid hs1
  have Hs2 := Lib.hid hs2
  have hg := Bool.or_eq_false_iff.1 hbad
  obtain ⟨k1, m1, p1⟩ := good_canon hs1.lim hg.1
  obtain ⟨k2, m2, p2⟩ := good_canon hs2.lim hg.2
  have Hk1 := Lib.hid k1
  have Hk2 := Lib.hid k2
  have hc := chk2_good hbad
  have h00 : ((l2.length : Int) == 0) = false := by rw [beq_eq_false_iff_ne]; omega
  have hb0 : 0 < val l2 := canon_val_pos k2 (by omega)
  have hne : l2 ≠ [] := fun h => h0 (by rw [h]; rfl)
  have Hres : Hid (dmS n1 l1 n2 l2 = (wOf (dqZ n1 (val l1) n2 (val l2)), wOf (drZ n1 (val l1) n2 (val l2)), 0)) := by unfold Hid dmS; rw [hbad, if_neg (by simp), if_neg h0]
  have Hq := Lib.hid (dmq (n1 := n1) (n2 := n2) k1 m1 hb0)
  have Hr := Lib.hid (dmr (n1 := n1) (n2 := n2) (l1 := l1) k2 m2 hb0)
  have hyl : (limbs (val l1 % val l2)).length ≤ l2.length := canon_len_le (canon_limbs _) k2 (by rw [val_limbs]; exact Nat.le_of_lt (Nat.mod_lt _ hb0))
  have hxl : (limbs (val l1 / val l2)).length ≤ l1.length := canon_len_le (canon_limbs _) k1 (by rw [val_limbs]; exact Nat.div_le_self _ _)
  have hz : (n1 != n2) = (!n1 == n2) := by cases n1 <;> cases n2 <;> rfl
  rw [hz] at Hq
  have Hmod : Hid (val l1 % val l2 ≤ val l2) := Nat.le_of_lt (Nat.mod_lt _ hb0)
  have hadj2 := hadj
  unfold dadj at hadj2
  rw [Bool.and_eq_true, decide_eq_true_eq] at hadj2
  have hneq := hadj2.2
  rw [hz] at hneq
  rw [hneq] at Hq
  clear hz
  have hyp : 0 < (limbs (val l1 % val l2)).length := limbs_len_pos.2 hadj2.1
  have Hqn : Hid (dqN n1 (val l1) n2 (val l2) = val l1 / val l2 + 1) := by unfold Hid dqN; rw [hadj, if_pos rfl]
  have Hrn : Hid (drN n1 (val l1) n2 (val l2) = val l2 - val l1 % val l2) := by unfold Hid drN; rw [hadj, if_pos rfl]
  rw [Hres.out]
  have Hvx := Lib.hid (val_limbs (val l1 / val l2))
  have Hvy := Lib.hid (val_limbs (val l1 % val l2))
  have Hdiv : Hid (∀ W, Sl W A1 l1 c1 → Sl W A2 l2 c2 → Calls Try.prog 76 #[.slice A1 l1.length c1, .slice A2 l2.length c2] W (LRes2 (limbs (val l1 / val l2)) (limbs (val l1 % val l2)) W)) := fun W h1 h2 => divide_any A1 A2 l1 l2 c1 c2 W h1 h2 k1 k2 hne (by omega)
  generalize wOf (dqZ n1 (val l1) n2 (val l2)) = rq at *
  generalize wOf (drZ n1 (val l1) n2 (val l2)) = rr at *
  generalize dqN n1 (val l1) n2 (val l2) = qn at *
  generalize drN n1 (val l1) n2 (val l2) = rn at *
  generalize limbs (val l1 / val l2) = x at *
  generalize limbs (val l1 % val l2) = y at *
  generalize val l1 / val l2 = qd at *
  generalize val l1 % val l2 = md at *
  clear hg hbad k1 k2 p1 p2 hs1 hs2 hadj hadj2 hb0 hne Hres Hk1 Hk2
  go_enter Try.func56, Try.ntmps56
  go_wp2_with fail
  refine (check_any _ [⟨n1, A1, l1, c1⟩, ⟨n2, A2, l2, c2⟩] (by simp) _ ?hc).mono ?_
  case hc => exact Wcs.two ((((Hs1.out.alloc _).alloc _).alloc _).alloc _) ((((Hs2.out.alloc _).alloc _).alloc _).alloc _) (by simp)
  rintro e w1 ⟨rfl, hb⟩
  rw [chkW_two]
  have K1 : Hid (Cw w1 w.heap.size n1 A1 l1.length c1) := ⟨kept_cell hb (by go_simp), kept_cell hb (by go_simp)⟩
  have K2 : Hid (Cw w1 (w.heap.size + 1) n2 A2 l2.length c2) := ⟨kept_cell hb (by go_simp), kept_cell hb (by go_simp)⟩
  have R1 : Hid (Cw w1 (w.heap.size + 1 + 1) false none 0 0) := ⟨kept_cell hb (by go_simp), kept_cell hb (by go_simp)⟩
  have R2 : Hid (Cw w1 (w.heap.size + 1 + 1 + 1) false none 0 0) := ⟨kept_cell hb (by go_simp), kept_cell hb (by go_simp)⟩
  have F1 : Hid (Fw w1 (w.heap.size + 1 + 1)) := ⟨(hb.frozen (by simp <;> omega)).trans (by go_simp), (hb.frozen (by simp <;> omega)).trans (by go_simp)⟩
  have F2 : Hid (Fw w1 (w.heap.size + 1 + 1 + 1)) := ⟨(hb.frozen (by simp <;> omega)).trans (by go_simp), (hb.frozen (by simp <;> omega)).trans (by go_simp)⟩
  have B : Hid (Below w.heap.size w w1) := below_mono (((blw4 _ _ _ _ _).alloc (by simp <;> omega) _)) hb
  have S1 : Hid (Sl w1 A1 l1 c1) := (((((Hs1.out.alloc _).alloc _).alloc _).alloc _).alloc _).below hb
  have S2 : Hid (Sl w1 A2 l2 c2) := (((((Hs2.out.alloc _).alloc _).alloc _).alloc _).alloc _).below hb
  clear hb
  obtain ⟨p0, p1⟩ := K1.out
  obtain ⟨p2, p3⟩ := K2.out
  go_wp2_with fail
  refine (Hdiv.out _ S1.out S2.out).mono ?_
  rintro e w2 ⟨A5, c5, A6, c6, rfl, hs5, hs6, hb⟩
  clear p0 p1 p2 p3
  have S5 := Lib.hid hs5
  have S6 := Lib.hid hs6
  clear hs5 hs6 Hdiv
  replace F1 := kFw F1 R1 hb
  replace F2 := kFw F2 R2 hb
  replace K1 := kW K1 hb
  replace K2 := kW K2 hb
  replace R1 := kW R1 hb
  replace R2 := kW R2 hb
  replace S1 := kS S1 hb
  replace S2 := kS S2 hb
  replace B := kB B hb
  clear hb
  obtain ⟨p0, p1⟩ := K1.out
  obtain ⟨p2, p3⟩ := K2.out
  go_wp2_with fail
  refine (plus_any A5 (some ⟨w2.heap.size, 0, none⟩) x [1] c5 1 _ (S5.out.alloc _) ⟨Rd.one _ _ _, lim_one (by omega), Nat.le_refl _, by simp⟩ (by omega) (by simp)).mono ?_
  rintro e w3 ⟨A7, c7, x7, rfl, hs7, hv7, hn7, hb⟩
  clear p0 p1 p2 p3
  have S7 := Lib.hid hs7
  have Hv7 : Hid (val x7 = qn) := by unfold Hid; rw [hv7, Hvx.out, Hqn.out]; simp [val]
  clear hs7 hv7 hn7
  replace F1 := kFw1 F1 R1 hb
  replace F2 := kFw1 F2 R2 hb
  replace K1 := kW1 K1 hb
  replace K2 := kW1 K2 hb
  replace R1 := kW1 R1 hb
  replace R2 := kW1 R2 hb
  replace S1 := kS1 S1 hb
  replace S2 := kS1 S2 hb
  replace S5 := kS1 S5 hb
  replace S6 := kS1 S6 hb
  replace B := kB1 B hb
  clear hb
  obtain ⟨p0, p1⟩ := K1.out
  obtain ⟨p2, p3⟩ := K2.out
  go_wp2_with fail
  refine (minus_any A2 A6 l2 y c2 c6 _ S2.out S6.out hyl (by omega) (by rw [Hvy.out]; exact Hmod.out)).mono ?_
  rintro e w4 ⟨A8, c8, y8, rfl, hs8, hv8, hn8, hb⟩
  clear p0 p1 p2 p3
  have S8 := Lib.hid hs8
  have Hv8 : Hid (val y8 = rn) := by unfold Hid; rw [hv8, Hvy.out, Hrn.out]
  clear hs8 hv8 hn8
  replace F1 := kFw F1 R1 hb
  replace F2 := kFw F2 R2 hb
  replace K1 := kW K1 hb
  replace K2 := kW K2 hb
  replace R1 := kW R1 hb
  replace R2 := kW R2 hb
  replace S1 := kS S1 hb
  replace S2 := kS S2 hb
  replace S5 := kS S5 hb
  replace S6 := kS S6 hb
  replace S7 := kS S7 hb
  replace B := kB B hb
  clear hb
  obtain ⟨p0, p1⟩ := K1.out
  obtain ⟨p2, p3⟩ := K2.out
  go_wp2_with fail
  refine (made_any _ A7 x7 c7 _ S7.out).mono ?_
  rw [Hv7.out, Hq.out]
  rintro e w5 ⟨A9, c9, rfl, hs9, hb⟩
  clear p0 p1 p2 p3
  have S9 := Lib.hid hs9
  clear hs9
  replace F1 := kFw F1 R1 hb
  replace F2 := kFw F2 R2 hb
  replace K1 := kW K1 hb
  replace K2 := kW K2 hb
  replace R1 := kW R1 hb
  replace R2 := kW R2 hb
  replace S1 := kS S1 hb
  replace S2 := kS S2 hb
  replace S5 := kS S5 hb
  replace S6 := kS S6 hb
  replace S7 := kS S7 hb
  replace S8 := kS S8 hb
  replace B := kB B hb
  clear hb
  obtain ⟨p0, p1⟩ := K1.out
  obtain ⟨p2, p3⟩ := K2.out
  obtain ⟨f0, f1⟩ := F1.out
  obtain ⟨r0, r1⟩ := R1.out
  go_wp2_with fail
  refine (made_any _ A8 y8 c8 _ (S8.out.setW R1.out.1 R1.out.2 _ _)).mono ?_
  rw [Hv8.out, Hr.out]
  rintro e w6 ⟨A10, c10, rfl, hs10, hb⟩
  clear r0 r1 f0 f1
  clear p0 p1 p2 p3
  have T10 := Lib.hid hs10
  clear hs10
  have G1 : Hid (Fw w6 (w.heap.size + 1 + 1)) := Fw.keep (Fw.setW F1.out _ _) (Cw.new R1.out) hb
  have G2 : Hid (Fw w6 (w.heap.size + 1 + 1 + 1)) := Fw.keep (Fw.setW F2.out _ _) (Cw.setW R2.out (by omega) _ _) hb
  have Q1 : Hid (Cw w6 (w.heap.size + 1 + 1) rq.1 A9 rq.2.length c9) := Cw.keep (Cw.new R1.out) hb
  have Q2 : Hid (Cw w6 (w.heap.size + 1 + 1 + 1) false none 0 0) := Cw.keep (Cw.setW R2.out (by omega) _ _) hb
  have T9 : Hid (Sl w6 A9 rq.2 c9) := Sl.below (S9.out.setW R1.out.1 R1.out.2 _ _) hb
  have C : Hid (Below w.heap.size w w6) := below_mono (below_setW B.out (by omega) _ _) hb
  clear hb K1 K2 R1 R2 F1 F2 B
  obtain ⟨f0, f1⟩ := G2.out
  obtain ⟨r0, r1⟩ := Q2.out
  go_wp2_with fail
  clear r0 r1 f0 f1
  have X1 : Hid (Cw ((w6.setCell ⟨(w.heap.size + 1 + 1 + 1), 0, none⟩ (.bool rr.1)).setCell ⟨(w.heap.size + 1 + 1 + 1), 1, none⟩ (.slice A10 rr.2.length c10)) (w.heap.size + 1 + 1) rq.1 A9 rq.2.length c9) := Cw.setW Q1.out (by omega) _ _
  have X2 : Hid (Cw ((w6.setCell ⟨(w.heap.size + 1 + 1 + 1), 0, none⟩ (.bool rr.1)).setCell ⟨(w.heap.size + 1 + 1 + 1), 1, none⟩ (.slice A10 rr.2.length c10)) (w.heap.size + 1 + 1 + 1) rr.1 A10 rr.2.length c10) := Cw.new Q2.out
  have Y1 : Hid (Fw ((w6.setCell ⟨(w.heap.size + 1 + 1 + 1), 0, none⟩ (.bool rr.1)).setCell ⟨(w.heap.size + 1 + 1 + 1), 1, none⟩ (.slice A10 rr.2.length c10)) (w.heap.size + 1 + 1)) := Fw.setW G1.out _ _
  have Y2 : Hid (Fw ((w6.setCell ⟨(w.heap.size + 1 + 1 + 1), 0, none⟩ (.bool rr.1)).setCell ⟨(w.heap.size + 1 + 1 + 1), 1, none⟩ (.slice A10 rr.2.length c10)) (w.heap.size + 1 + 1 + 1)) := Fw.setW G2.out _ _
  have Z9 : Hid (Sl ((w6.setCell ⟨(w.heap.size + 1 + 1 + 1), 0, none⟩ (.bool rr.1)).setCell ⟨(w.heap.size + 1 + 1 + 1), 1, none⟩ (.slice A10 rr.2.length c10)) A9 rq.2 c9) := T9.out.setW Q2.out.1 Q2.out.2 _ _
  have Z10 : Hid (Sl ((w6.setCell ⟨(w.heap.size + 1 + 1 + 1), 0, none⟩ (.bool rr.1)).setCell ⟨(w.heap.size + 1 + 1 + 1), 1, none⟩ (.slice A10 rr.2.length c10)) A10 rr.2 c10) := T10.out.setW Q2.out.1 Q2.out.2 _ _
  have C2 : Hid (Below w.heap.size w ((w6.setCell ⟨(w.heap.size + 1 + 1 + 1), 0, none⟩ (.bool rr.1)).setCell ⟨(w.heap.size + 1 + 1 + 1), 1, none⟩ (.slice A10 rr.2.length c10))) := below_setW C.out (by omega) _ _
  generalize (w6.setCell ⟨(w.heap.size + 1 + 1 + 1), 0, none⟩ (.bool rr.1)).setCell ⟨(w.heap.size + 1 + 1 + 1), 1, none⟩ (.slice A10 rr.2.length c10) = wS at *
  clear Q1 Q2 G1 G2 T9 T10 C
  obtain ⟨f0, f1⟩ := Y1.out
  obtain ⟨f2, f3⟩ := Y2.out
  obtain ⟨r0, r1⟩ := X1.out
  obtain ⟨r2, r3⟩ := X2.out
  go_region
  go_wp2
  exact bodyPost_ret (v := .tuple #[.agg #[.bool rq.1, .slice A9 rq.2.length c9], .agg #[.bool rr.1, .slice A10 rr.2.length c10], .int .i64 0]) (by simp [results, Try.results56, go_sem, r0, r1, r2, r3]) rfl (dres_end (r := (rq, rr, 0)) Z9.out Z10.out X1.out X2.out C2.out (by omega) (by omega) (by omega))

set_option maxRecDepth 100000 in
set_option maxHeartbeats 2000000 in
theorem wdivmod_same (n1 n2 : Bool) (A1 A2 : Option Addr) (l1 l2 : List Nat) (c1 c2 : Nat) (w : World) (hs1 : Sl w A1 l1 c1) (hs2 : Sl w A2 l2 c2) (hbad : (badL n1 l1 || badL n2 l2) = false) (h0 : l2.length ≠ 0) (hadj : dadj n1 (val l1) n2 (val l2) = false) :
    Calls Try.prog 56 #[.agg #[.bool n1, .slice A1 l1.length c1], .agg #[.bool n2, .slice A2 l2.length c2]] w (DRes (dmS n1 l1 n2 l2) w) := by
  have Hs1 := Lib.hid hs1
  have Hs2 := Lib.hid hs2
  have hg := Bool.or_eq_false_iff.1 hbad
  obtain ⟨k1, m1, p1⟩ := good_canon hs1.lim hg.1
  obtain ⟨k2, m2, p2⟩ := good_canon hs2.lim hg.2
  have Hk1 := Lib.hid k1
  have Hk2 := Lib.hid k2
  have hc := chk2_good hbad
  have h00 : ((l2.length : Int) == 0) = false := by rw [beq_eq_false_iff_ne]; omega
  have hb0 : 0 < val l2 := canon_val_pos k2 (by omega)
  have hne : l2 ≠ [] := fun h => h0 (by rw [h]; rfl)
  have Hres : Hid (dmS n1 l1 n2 l2 = (wOf (dqZ n1 (val l1) n2 (val l2)), wOf (drZ n1 (val l1) n2 (val l2)), 0)) := by unfold Hid dmS; rw [hbad, if_neg (by simp), if_neg h0]
  have Hq := Lib.hid (dmq (n1 := n1) (n2 := n2) k1 m1 hb0)
  have Hr := Lib.hid (dmr (n1 := n1) (n2 := n2) (l1 := l1) k2 m2 hb0)
  have hz : (n1 != n2) = (!n1 == n2) := by cases n1 <;> cases n2 <;> rfl
  rw [hz] at Hq
  clear hz
  have Hqn : Hid (dqN n1 (val l1) n2 (val l2) = val l1 / val l2) := by unfold Hid dqN; rw [hadj, if_neg (by simp)]
  have Hrn : Hid (drN n1 (val l1) n2 (val l2) = val l1 % val l2) := by unfold Hid drN; rw [hadj, if_neg (by simp)]
  have Hcase : Hid (0 < (limbs (val l1 % val l2)).length → (!n1 == n2) = false) := by
    intro h
    unfold dadj at hadj
    rw [decide_eq_true (limbs_len_pos.1 h)] at hadj
    revert hadj
    cases n1 <;> cases n2 <;> simp
  rw [Hres.out]
  have Hvx := Lib.hid (val_limbs (val l1 / val l2))
  have Hvy := Lib.hid (val_limbs (val l1 % val l2))
  have Hdiv : Hid (∀ W, Sl W A1 l1 c1 → Sl W A2 l2 c2 → Calls Try.prog 76 #[.slice A1 l1.length c1, .slice A2 l2.length c2] W (LRes2 (limbs (val l1 / val l2)) (limbs (val l1 % val l2)) W)) := fun W h1 h2 => divide_any A1 A2 l1 l2 c1 c2 W h1 h2 k1 k2 hne (by omega)
  generalize wOf (dqZ n1 (val l1) n2 (val l2)) = rq at *
  generalize wOf (drZ n1 (val l1) n2 (val l2)) = rr at *
  generalize dqN n1 (val l1) n2 (val l2) = qn at *
  generalize drN n1 (val l1) n2 (val l2) = rn at *
  generalize limbs (val l1 / val l2) = x at *
  generalize limbs (val l1 % val l2) = y at *
  generalize val l1 / val l2 = qd at *
  generalize val l1 % val l2 = md at *
  clear hg hbad k1 k2 p1 p2 hs1 hs2 hadj hb0 hne Hres Hk1 Hk2
  go_enter Try.func56, Try.ntmps56
  go_wp2_with fail
  refine (check_any _ [⟨n1, A1, l1, c1⟩, ⟨n2, A2, l2, c2⟩] (by simp) _ ?hc).mono ?_
  case hc => exact Wcs.two ((((Hs1.out.alloc _).alloc _).alloc _).alloc _) ((((Hs2.out.alloc _).alloc _).alloc _).alloc _) (by simp)
  rintro e w1 ⟨rfl, hb⟩
  rw [chkW_two]
  have K1 : Hid (Cw w1 w.heap.size n1 A1 l1.length c1) := ⟨kept_cell hb (by go_simp), kept_cell hb (by go_simp)⟩
  have K2 : Hid (Cw w1 (w.heap.size + 1) n2 A2 l2.length c2) := ⟨kept_cell hb (by go_simp), kept_cell hb (by go_simp)⟩
  have R1 : Hid (Cw w1 (w.heap.size + 1 + 1) false none 0 0) := ⟨kept_cell hb (by go_simp), kept_cell hb (by go_simp)⟩
  have R2 : Hid (Cw w1 (w.heap.size + 1 + 1 + 1) false none 0 0) := ⟨kept_cell hb (by go_simp), kept_cell hb (by go_simp)⟩
  have F1 : Hid (Fw w1 (w.heap.size + 1 + 1)) := ⟨(hb.frozen (by simp <;> omega)).trans (by go_simp), (hb.frozen (by simp <;> omega)).trans (by go_simp)⟩
  have F2 : Hid (Fw w1 (w.heap.size + 1 + 1 + 1)) := ⟨(hb.frozen (by simp <;> omega)).trans (by go_simp), (hb.frozen (by simp <;> omega)).trans (by go_simp)⟩
  have B : Hid (Below w.heap.size w w1) := below_mono (((blw4 _ _ _ _ _).alloc (by simp <;> omega) _)) hb
  have S1 : Hid (Sl w1 A1 l1 c1) := (((((Hs1.out.alloc _).alloc _).alloc _).alloc _).alloc _).below hb
  have S2 : Hid (Sl w1 A2 l2 c2) := (((((Hs2.out.alloc _).alloc _).alloc _).alloc _).alloc _).below hb
  clear hb
  obtain ⟨p0, p1⟩ := K1.out
  obtain ⟨p2, p3⟩ := K2.out
  go_wp2_with fail
  refine (Hdiv.out _ S1.out S2.out).mono ?_
  rintro e w2 ⟨A5, c5, A6, c6, rfl, hs5, hs6, hb⟩
  clear p0 p1 p2 p3
  have S5 := Lib.hid hs5
  have S6 := Lib.hid hs6
  clear hs5 hs6 Hdiv
  have Hv5 : Hid (val x = qn) := by unfold Hid; rw [Hvx.out, Hqn.out]
  have Hv6 : Hid (val y = rn) := by unfold Hid; rw [Hvy.out, Hrn.out]
  replace F1 := kFw F1 R1 hb
  replace F2 := kFw F2 R2 hb
  replace K1 := kW K1 hb
  replace K2 := kW K2 hb
  replace R1 := kW R1 hb
  replace R2 := kW R2 hb
  replace S1 := kS S1 hb
  replace S2 := kS S2 hb
  replace B := kB B hb
  clear hb
  by_cases hyp : 0 < y.length
  · have hneq := Hcase.out hyp
    rw [hneq] at Hq
    obtain ⟨p0, p1⟩ := K1.out
    obtain ⟨p2, p3⟩ := K2.out
    go_wp2_with fail
    refine (made_any _ A5 x c5 _ S5.out).mono ?_
    rw [Hv5.out, Hq.out]
    rintro e w3 ⟨A9, c9, rfl, hs9, hb⟩
    clear p0 p1 p2 p3
    have S9 := Lib.hid hs9
    clear hs9
    replace F1 := kFw F1 R1 hb
    replace F2 := kFw F2 R2 hb
    replace K1 := kW K1 hb
    replace K2 := kW K2 hb
    replace R1 := kW R1 hb
    replace R2 := kW R2 hb
    replace S1 := kS S1 hb
    replace S2 := kS S2 hb
    replace S5 := kS S5 hb
    replace S6 := kS S6 hb
    replace B := kB B hb
    clear hb
    obtain ⟨p0, p1⟩ := K1.out
    obtain ⟨p2, p3⟩ := K2.out
    obtain ⟨f0, f1⟩ := F1.out
    obtain ⟨r0, r1⟩ := R1.out
    go_wp2_with fail
    refine (made_any _ A6 y c6 _ (S6.out.setW R1.out.1 R1.out.2 _ _)).mono ?_
    rw [Hv6.out, Hr.out]
    rintro e w4 ⟨A10, c10, rfl, hs10, hb⟩
    clear r0 r1 f0 f1
    clear p0 p1 p2 p3
    have T10 := Lib.hid hs10
    clear hs10
    have G1 : Hid (Fw w4 (w.heap.size + 1 + 1)) := Fw.keep (Fw.setW F1.out _ _) (Cw.new R1.out) hb
    have G2 : Hid (Fw w4 (w.heap.size + 1 + 1 + 1)) := Fw.keep (Fw.setW F2.out _ _) (Cw.setW R2.out (by omega) _ _) hb
    have Q1 : Hid (Cw w4 (w.heap.size + 1 + 1) rq.1 A9 rq.2.length c9) := Cw.keep (Cw.new R1.out) hb
    have Q2 : Hid (Cw w4 (w.heap.size + 1 + 1 + 1) false none 0 0) := Cw.keep (Cw.setW R2.out (by omega) _ _) hb
    have T9 : Hid (Sl w4 A9 rq.2 c9) := Sl.below (S9.out.setW R1.out.1 R1.out.2 _ _) hb
    have C : Hid (Below w.heap.size w w4) := below_mono (below_setW B.out (by omega) _ _) hb
    clear hb K1 K2 R1 R2 F1 F2 B
    obtain ⟨f0, f1⟩ := G2.out
    obtain ⟨r0, r1⟩ := Q2.out
    go_wp2_with fail
    clear r0 r1 f0 f1
    have X1 : Hid (Cw ((w4.setCell ⟨(w.heap.size + 1 + 1 + 1), 0, none⟩ (.bool rr.1)).setCell ⟨(w.heap.size + 1 + 1 + 1), 1, none⟩ (.slice A10 rr.2.length c10)) (w.heap.size + 1 + 1) rq.1 A9 rq.2.length c9) := Cw.setW Q1.out (by omega) _ _
    have X2 : Hid (Cw ((w4.setCell ⟨(w.heap.size + 1 + 1 + 1), 0, none⟩ (.bool rr.1)).setCell ⟨(w.heap.size + 1 + 1 + 1), 1, none⟩ (.slice A10 rr.2.length c10)) (w.heap.size + 1 + 1 + 1) rr.1 A10 rr.2.length c10) := Cw.new Q2.out
    have Y1 : Hid (Fw ((w4.setCell ⟨(w.heap.size + 1 + 1 + 1), 0, none⟩ (.bool rr.1)).setCell ⟨(w.heap.size + 1 + 1 + 1), 1, none⟩ (.slice A10 rr.2.length c10)) (w.heap.size + 1 + 1)) := Fw.setW G1.out _ _
    have Y2 : Hid (Fw ((w4.setCell ⟨(w.heap.size + 1 + 1 + 1), 0, none⟩ (.bool rr.1)).setCell ⟨(w.heap.size + 1 + 1 + 1), 1, none⟩ (.slice A10 rr.2.length c10)) (w.heap.size + 1 + 1 + 1)) := Fw.setW G2.out _ _
    have Z9 : Hid (Sl ((w4.setCell ⟨(w.heap.size + 1 + 1 + 1), 0, none⟩ (.bool rr.1)).setCell ⟨(w.heap.size + 1 + 1 + 1), 1, none⟩ (.slice A10 rr.2.length c10)) A9 rq.2 c9) := T9.out.setW Q2.out.1 Q2.out.2 _ _
    have Z10 : Hid (Sl ((w4.setCell ⟨(w.heap.size + 1 + 1 + 1), 0, none⟩ (.bool rr.1)).setCell ⟨(w.heap.size + 1 + 1 + 1), 1, none⟩ (.slice A10 rr.2.length c10)) A10 rr.2 c10) := T10.out.setW Q2.out.1 Q2.out.2 _ _
    have C2 : Hid (Below w.heap.size w ((w4.setCell ⟨(w.heap.size + 1 + 1 + 1), 0, none⟩ (.bool rr.1)).setCell ⟨(w.heap.size + 1 + 1 + 1), 1, none⟩ (.slice A10 rr.2.length c10))) := below_setW C.out (by omega) _ _
    generalize (w4.setCell ⟨(w.heap.size + 1 + 1 + 1), 0, none⟩ (.bool rr.1)).setCell ⟨(w.heap.size + 1 + 1 + 1), 1, none⟩ (.slice A10 rr.2.length c10) = wS at *
    clear Q1 Q2 G1 G2 T9 T10 C
    obtain ⟨f0, f1⟩ := Y1.out
    obtain ⟨f2, f3⟩ := Y2.out
    obtain ⟨r0, r1⟩ := X1.out
    obtain ⟨r2, r3⟩ := X2.out
    go_region
    go_wp2
    exact bodyPost_ret (v := .tuple #[.agg #[.bool rq.1, .slice A9 rq.2.length c9], .agg #[.bool rr.1, .slice A10 rr.2.length c10], .int .i64 0]) (by simp [results, Try.results56, go_sem, r0, r1, r2, r3]) rfl (dres_end (r := (rq, rr, 0)) Z9.out Z10.out X1.out X2.out C2.out (by omega) (by omega) (by omega))
  · have hyz : decide ((0 : Int) < (y.length : Int)) = false := decide_eq_false (by omega)
    obtain ⟨p0, p1⟩ := K1.out
    obtain ⟨p2, p3⟩ := K2.out
    go_wp2_with fail
    refine (made_any _ A5 x c5 _ S5.out).mono ?_
    rw [Hv5.out, Hq.out]
    rintro e w3 ⟨A9, c9, rfl, hs9, hb⟩
    clear p0 p1 p2 p3
    have S9 := Lib.hid hs9
    clear hs9
    replace F1 := kFw F1 R1 hb
    replace F2 := kFw F2 R2 hb
    replace K1 := kW K1 hb
    replace K2 := kW K2 hb
    replace R1 := kW R1 hb
    replace R2 := kW R2 hb
    replace S1 := kS S1 hb
    replace S2 := kS S2 hb
    replace S5 := kS S5 hb
    replace S6 := kS S6 hb
    replace B := kB B hb
    clear hb
    obtain ⟨p0, p1⟩ := K1.out
    obtain ⟨p2, p3⟩ := K2.out
    obtain ⟨f0, f1⟩ := F1.out
    obtain ⟨r0, r1⟩ := R1.out
    go_wp2_with fail
    refine (made_any _ A6 y c6 _ (S6.out.setW R1.out.1 R1.out.2 _ _)).mono ?_
    rw [Hv6.out, Hr.out]
    rintro e w4 ⟨A10, c10, rfl, hs10, hb⟩
    clear r0 r1 f0 f1
    clear p0 p1 p2 p3
    have T10 := Lib.hid hs10
    clear hs10
    have G1 : Hid (Fw w4 (w.heap.size + 1 + 1)) := Fw.keep (Fw.setW F1.out _ _) (Cw.new R1.out) hb
    have G2 : Hid (Fw w4 (w.heap.size + 1 + 1 + 1)) := Fw.keep (Fw.setW F2.out _ _) (Cw.setW R2.out (by omega) _ _) hb
    have Q1 : Hid (Cw w4 (w.heap.size + 1 + 1) rq.1 A9 rq.2.length c9) := Cw.keep (Cw.new R1.out) hb
    have Q2 : Hid (Cw w4 (w.heap.size + 1 + 1 + 1) false none 0 0) := Cw.keep (Cw.setW R2.out (by omega) _ _) hb
    have T9 : Hid (Sl w4 A9 rq.2 c9) := Sl.below (S9.out.setW R1.out.1 R1.out.2 _ _) hb
    have C : Hid (Below w.heap.size w w4) := below_mono (below_setW B.out (by omega) _ _) hb
    clear hb K1 K2 R1 R2 F1 F2 B
    obtain ⟨f0, f1⟩ := G2.out
    obtain ⟨r0, r1⟩ := Q2.out
    go_wp2_with fail
    clear r0 r1 f0 f1
    have X1 : Hid (Cw ((w4.setCell ⟨(w.heap.size + 1 + 1 + 1), 0, none⟩ (.bool rr.1)).setCell ⟨(w.heap.size + 1 + 1 + 1), 1, none⟩ (.slice A10 rr.2.length c10)) (w.heap.size + 1 + 1) rq.1 A9 rq.2.length c9) := Cw.setW Q1.out (by omega) _ _
    have X2 : Hid (Cw ((w4.setCell ⟨(w.heap.size + 1 + 1 + 1), 0, none⟩ (.bool rr.1)).setCell ⟨(w.heap.size + 1 + 1 + 1), 1, none⟩ (.slice A10 rr.2.length c10)) (w.heap.size + 1 + 1 + 1) rr.1 A10 rr.2.length c10) := Cw.new Q2.out
    have Y1 : Hid (Fw ((w4.setCell ⟨(w.heap.size + 1 + 1 + 1), 0, none⟩ (.bool rr.1)).setCell ⟨(w.heap.size + 1 + 1 + 1), 1, none⟩ (.slice A10 rr.2.length c10)) (w.heap.size + 1 + 1)) := Fw.setW G1.out _ _
    have Y2 : Hid (Fw ((w4.setCell ⟨(w.heap.size + 1 + 1 + 1), 0, none⟩ (.bool rr.1)).setCell ⟨(w.heap.size + 1 + 1 + 1), 1, none⟩ (.slice A10 rr.2.length c10)) (w.heap.size + 1 + 1 + 1)) := Fw.setW G2.out _ _
    have Z9 : Hid (Sl ((w4.setCell ⟨(w.heap.size + 1 + 1 + 1), 0, none⟩ (.bool rr.1)).setCell ⟨(w.heap.size + 1 + 1 + 1), 1, none⟩ (.slice A10 rr.2.length c10)) A9 rq.2 c9) := T9.out.setW Q2.out.1 Q2.out.2 _ _
    have Z10 : Hid (Sl ((w4.setCell ⟨(w.heap.size + 1 + 1 + 1), 0, none⟩ (.bool rr.1)).setCell ⟨(w.heap.size + 1 + 1 + 1), 1, none⟩ (.slice A10 rr.2.length c10)) A10 rr.2 c10) := T10.out.setW Q2.out.1 Q2.out.2 _ _
    have C2 : Hid (Below w.heap.size w ((w4.setCell ⟨(w.heap.size + 1 + 1 + 1), 0, none⟩ (.bool rr.1)).setCell ⟨(w.heap.size + 1 + 1 + 1), 1, none⟩ (.slice A10 rr.2.length c10))) := below_setW C.out (by omega) _ _
    generalize (w4.setCell ⟨(w.heap.size + 1 + 1 + 1), 0, none⟩ (.bool rr.1)).setCell ⟨(w.heap.size + 1 + 1 + 1), 1, none⟩ (.slice A10 rr.2.length c10) = wS at *
    clear Q1 Q2 G1 G2 T9 T10 C
    obtain ⟨f0, f1⟩ := Y1.out
    obtain ⟨f2, f3⟩ := Y2.out
    obtain ⟨r0, r1⟩ := X1.out
    obtain ⟨r2, r3⟩ := X2.out
    go_region
    go_wp2
    exact bodyPost_ret (v := .tuple #[.agg #[.bool rq.1, .slice A9 rq.2.length c9], .agg #[.bool rr.1, .slice A10 rr.2.length c10], .int .i64 0]) (by simp [results, Try.results56, go_sem, r0, r1, r2, r3]) rfl (dres_end (r := (rq, rr, 0)) Z9.out Z10.out X1.out X2.out C2.out (by omega) (by omega) (by omega))

set_option maxRecDepth 100000 in
set_option maxHeartbeats 2000000 in
theorem wdivmod_bad (n1 n2 : Bool) (A1 A2 : Option Addr) (l1 l2 : List Nat) (c1 c2 : Nat) (w : World) (hs1 : Sl w A1 l1 c1) (hs2 : Sl w A2 l2 c2) (hbad : (badL n1 l1 || badL n2 l2) = true) :
    Calls Try.prog 56 #[.agg #[.bool n1, .slice A1 l1.length c1], .agg #[.bool n2, .slice A2 l2.length c2]] w (DRes (dmS n1 l1 n2 l2) w) := by
  have Hs1 := Lib.hid hs1
  have Hs2 := Lib.hid hs2
  have hr : dmS n1 l1 n2 l2 = ((false, []), (false, []), 8) := by rw [dmS, hbad, if_pos rfl]
  have hc := chk2_bad hbad
  rw [hr]
  clear hr hbad
  clear hs1 hs2
  go_enter Try.func56, Try.ntmps56
  go_wp2_with fail
  refine (check_any _ [⟨n1, A1, l1, c1⟩, ⟨n2, A2, l2, c2⟩] (by simp) _ ?hc).mono ?_
  case hc => exact Wcs.two ((((Hs1.out.alloc _).alloc _).alloc _).alloc _) ((((Hs2.out.alloc _).alloc _).alloc _).alloc _) (by simp)
  rintro e w1 ⟨rfl, hb⟩
  rw [chkW_two]
  have K1 : Hid (Cw w1 w.heap.size n1 A1 l1.length c1) := ⟨kept_cell hb (by go_simp), kept_cell hb (by go_simp)⟩
  have K2 : Hid (Cw w1 (w.heap.size + 1) n2 A2 l2.length c2) := ⟨kept_cell hb (by go_simp), kept_cell hb (by go_simp)⟩
  have R1 : Hid (Cw w1 (w.heap.size + 1 + 1) false none 0 0) := ⟨kept_cell hb (by go_simp), kept_cell hb (by go_simp)⟩
  have R2 : Hid (Cw w1 (w.heap.size + 1 + 1 + 1) false none 0 0) := ⟨kept_cell hb (by go_simp), kept_cell hb (by go_simp)⟩
  have F1 : Hid (Fw w1 (w.heap.size + 1 + 1)) := ⟨(hb.frozen (by simp <;> omega)).trans (by go_simp), (hb.frozen (by simp <;> omega)).trans (by go_simp)⟩
  have F2 : Hid (Fw w1 (w.heap.size + 1 + 1 + 1)) := ⟨(hb.frozen (by simp <;> omega)).trans (by go_simp), (hb.frozen (by simp <;> omega)).trans (by go_simp)⟩
  have B : Hid (Below w.heap.size w w1) := below_mono (((blw4 _ _ _ _ _).alloc (by simp <;> omega) _)) hb
  have S1 : Hid (Sl w1 A1 l1 c1) := (((((Hs1.out.alloc _).alloc _).alloc _).alloc _).alloc _).below hb
  have S2 : Hid (Sl w1 A2 l2 c2) := (((((Hs2.out.alloc _).alloc _).alloc _).alloc _).alloc _).below hb
  clear hb
  obtain ⟨p0, p1⟩ := K1.out
  obtain ⟨p2, p3⟩ := K2.out
  obtain ⟨f0, f1⟩ := F1.out
  obtain ⟨f2, f3⟩ := F2.out
  obtain ⟨r0, r1⟩ := R1.out
  obtain ⟨r2, r3⟩ := R2.out
  go_wp2
  exact bodyPost_ret (v := .tuple #[.agg #[.bool false, .slice none 0 0], .agg #[.bool false, .slice none 0 0], .int .i64 8]) (by simp [results, Try.results56, go_sem, r0, r1, r2, r3]) rfl (dres_bad 8 B.out (by omega) (by omega))

set_option maxRecDepth 100000 in
set_option maxHeartbeats 2000000 in
theorem wdivmod_zero (n1 n2 : Bool) (A1 A2 : Option Addr) (l1 l2 : List Nat) (c1 c2 : Nat) (w : World) (hs1 : Sl w A1 l1 c1) (hs2 : Sl w A2 l2 c2) (hbad : (badL n1 l1 || badL n2 l2) = false) (h0 : l2.length = 0) :
    Calls Try.prog 56 #[.agg #[.bool n1, .slice A1 l1.length c1], .agg #[.bool n2, .slice A2 l2.length c2]] w (DRes (dmS n1 l1 n2 l2) w) := by
  have Hs1 := Lib.hid hs1
  have Hs2 := Lib.hid hs2
  have hr : dmS n1 l1 n2 l2 = ((false, []), (false, []), 18) := by rw [dmS, hbad, if_neg (by simp), if_pos h0]
  have hc := chk2_good hbad
  rw [hr]
  have h00 : ((l2.length : Int) == 0) = true := by rw [beq_iff_eq]; omega
  clear hr hbad h0
  clear hs1 hs2
  go_enter Try.func56, Try.ntmps56
  go_wp2_with fail
  refine (check_any _ [⟨n1, A1, l1, c1⟩, ⟨n2, A2, l2, c2⟩] (by simp) _ ?hc).mono ?_
  case hc => exact Wcs.two ((((Hs1.out.alloc _).alloc _).alloc _).alloc _) ((((Hs2.out.alloc _).alloc _).alloc _).alloc _) (by simp)
  rintro e w1 ⟨rfl, hb⟩
  rw [chkW_two]
  have K1 : Hid (Cw w1 w.heap.size n1 A1 l1.length c1) := ⟨kept_cell hb (by go_simp), kept_cell hb (by go_simp)⟩
  have K2 : Hid (Cw w1 (w.heap.size + 1) n2 A2 l2.length c2) := ⟨kept_cell hb (by go_simp), kept_cell hb (by go_simp)⟩
  have R1 : Hid (Cw w1 (w.heap.size + 1 + 1) false none 0 0) := ⟨kept_cell hb (by go_simp), kept_cell hb (by go_simp)⟩
  have R2 : Hid (Cw w1 (w.heap.size + 1 + 1 + 1) false none 0 0) := ⟨kept_cell hb (by go_simp), kept_cell hb (by go_simp)⟩
  have F1 : Hid (Fw w1 (w.heap.size + 1 + 1)) := ⟨(hb.frozen (by simp <;> omega)).trans (by go_simp), (hb.frozen (by simp <;> omega)).trans (by go_simp)⟩
  have F2 : Hid (Fw w1 (w.heap.size + 1 + 1 + 1)) := ⟨(hb.frozen (by simp <;> omega)).trans (by go_simp), (hb.frozen (by simp <;> omega)).trans (by go_simp)⟩
  have B : Hid (Below w.heap.size w w1) := below_mono (((blw4 _ _ _ _ _).alloc (by simp <;> omega) _)) hb
  have S1 : Hid (Sl w1 A1 l1 c1) := (((((Hs1.out.alloc _).alloc _).alloc _).alloc _).alloc _).below hb
  have S2 : Hid (Sl w1 A2 l2 c2) := (((((Hs2.out.alloc _).alloc _).alloc _).alloc _).alloc _).below hb
  clear hb
  obtain ⟨p0, p1⟩ := K1.out
  obtain ⟨p2, p3⟩ := K2.out
  obtain ⟨f0, f1⟩ := F1.out
  obtain ⟨f2, f3⟩ := F2.out
  obtain ⟨r0, r1⟩ := R1.out
  obtain ⟨r2, r3⟩ := R2.out
  go_wp2
  exact bodyPost_ret (v := .tuple #[.agg #[.bool false, .slice none 0 0], .agg #[.bool false, .slice none 0 0], .int .i64 18]) (by simp [results, Try.results56, go_sem, r0, r1, r2, r3]) rfl (dres_bad 18 B.out (by omega) (by omega))

theorem wdivmod_any (n1 n2 : Bool) (A1 A2 : Option Addr) (l1 l2 : List Nat) (c1 c2 : Nat) (w : World) (hs1 : Sl w A1 l1 c1) (hs2 : Sl w A2 l2 c2) :
    Calls Try.prog 56 #[.agg #[.bool n1, .slice A1 l1.length c1], .agg #[.bool n2, .slice A2 l2.length c2]] w (DRes (dmS n1 l1 n2 l2) w) := by
  cases hbad : badL n1 l1 || badL n2 l2
  · by_cases h0 : l2.length = 0
    · exact wdivmod_zero n1 n2 A1 A2 l1 l2 c1 c2 w hs1 hs2 hbad h0
    · cases hadj : dadj n1 (val l1) n2 (val l2)
      · exact wdivmod_same n1 n2 A1 A2 l1 l2 c1 c2 w hs1 hs2 hbad h0 hadj
      · exact wdivmod_adj n1 n2 A1 A2 l1 l2 c1 c2 w hs1 hs2 hbad h0 hadj
  · exact wdivmod_bad n1 n2 A1 A2 l1 l2 c1 c2 w hs1 hs2 hbad

end Go.Proofs.Ytlekjkljajeodaa

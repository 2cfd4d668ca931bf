/- Walks: the reference's Pow. -/
import Derived.Test.YtmelbahbjdogdaaGreatDoorW2
import Derived.Test.YtmelbahbjdogdaaGreatDoorW20
import Derived.Test.YtmelbahbjdogdaaGreatDoorMathZ
namespace Go.Proofs.YtmelbahbjdogdaaGreatDoor
open Go.RowKit
attribute [local go_sem ↓] Go.wp_at_zero Go.wp_at_succ
set_option maxRecDepth 100000 in
set_option maxHeartbeats 2000000 in
theorem rpow_good (n : Bool) (A : Option Addr) (l : List Nat) (c kn : Nat) (w : World) (hs : Sl w A l c) (hbad : badL n l = false) (hk : kn ≤ 1000) :
    Calls Tryz.prog 29 #[.agg #[.bool n, .slice A l.length c], .int .i64 kn] w (WRes (powS n l kn) w) := by
  have Hs := Lib.hid hs
  have Hbad := Lib.hid hbad
  have hc := chk_good hbad
  have Hres := Lib.hid (powS_good hbad hk)
  obtain ⟨z, hz⟩ : ∃ z, z = zv n l := ⟨_, rfl⟩
  have Hz := Lib.hid hz
  rw [← hz] at Hres
  rw [Hres.out]
  clear hs hbad hz Hres
  have d1 : decide ((kn : Int) < 0) = false := decide_eq_false (by omega)
  have d2 : decide ((1000 : Int) < (kn : Int)) = false := decide_eq_false (by omega)
  go_enter Tryz.func29, Tryz.ntmps29
  go_wp2_with fail
  refine (rcheck_any n A l c _ ((Hs.out.alloc _).alloc _)).mono ?_
  rintro e w1 ⟨rfl, hb⟩
  have K : Hid (Cw w1 w.heap.size n A l.length c) := ⟨kept_cell hb (by go_simp), kept_cell hb (by go_simp)⟩
  have R : Hid (Cw w1 (w.heap.size + 1) false none 0 0) := ⟨kept_cell hb (by go_simp), kept_cell hb (by go_simp)⟩
  have F : Hid (Fw w1 (w.heap.size + 1)) := ⟨(hb.frozen (by simp)).trans (by go_simp), (hb.frozen (by simp)).trans (by go_simp)⟩
  have B : Hid (Below w.heap.size w w1) := below_mono (blw2 _ _ _) hb
  have S : Hid (Sl w1 A l c) := ((Hs.out.alloc _).alloc _).below hb
  clear hb
  go_wp2_with fail
  refine (rfrom_any 1 _ (by omega) (by omega)).mono ?_
  rintro e w2 ⟨A5, c5, rfl, hs5, hb⟩
  have S5 := Lib.hid hs5
  have K2 := Lib.hid (K.out.keep hb)
  have R2 := Lib.hid (R.out.keep hb)
  have F2 := Lib.hid (Fw.keep F.out R.out hb)
  have B2 := Lib.hid (below_mono B.out hb)
  have S2 := Lib.hid (S.out.below hb)
  have hz2 : w.heap.size + 1 < w2.heap.size := lt_of_cell R2.out.1
  clear hs5 hb K R F B S
  go_wp2
  generalize hg6 : w2.heap.size = g6 at *
  go_loopw [7, 8, 9] (fun i _ _ wr => ∃ (j : Nat) (A6 : Option Addr) (c6 : Nat), i = .int .i64 j ∧ j ≤ kn ∧ fitZ (z ^ j) ∧ Cw wr g6 (wOf (z ^ j)).1 A6 (wOf (z ^ j)).2.length c6 ∧ Fw wr g6 ∧ Sl wr A6 (wOf (z ^ j)).2 c6 ∧ Cw wr w.heap.size n A l.length c ∧ Sl wr A l c ∧ Cw wr (w.heap.size + 1) false none 0 0 ∧ Fw wr (w.heap.size + 1) ∧ Below w.heap.size w wr) (fun i _ _ _ => kn - (intOf i).toNat)
  case atStart =>
    have e0 : z ^ 0 = 1 := Int.pow_zero z
    refine ⟨0, A5, c5, rfl, Nat.zero_le _, ?_⟩
    rw [e0]
    exact ⟨fit_one, Cw.fresh hg6.symm _ _ _ _ _, Fw.fresh hg6.symm _ _, S5.out.alloc _, Cw.keep K2.out (blw1 _ _), S2.out.alloc _, Cw.keep R2.out (blw1 _ _), Fw.alloc F2.out R2.out _, below_mono B2.out (blw1 _ _)⟩
  case round =>
    clear S5 K2 R2 F2 B2 S2
    obtain ⟨j, A6, c6, rfl, hj, hfit, k6, f6, s6, k, s, r, f, b⟩ := hrel
    have Hfit := Lib.hid hfit
    have K6 := Lib.hid k6
    have F6 := Lib.hid f6
    have S6 := Lib.hid s6
    have K := Lib.hid k
    have S := Lib.hid s
    have R := Lib.hid r
    have F := Lib.hid f
    have B := Lib.hid b
    clear hfit k6 f6 s6 k s r f b
    by_cases hlt : j < kn
    · have Hmul : Hid (mulS (wOf (z ^ j)).1 (wOf (z ^ j)).2 n l = outZ (z ^ (j + 1))) := by
        unfold Hid
        rw [mulS_of Hfit.out Hbad.out, ← Hz.out, Int.pow_succ]
      obtain ⟨q0, q1⟩ := K.out
      obtain ⟨q2, q3⟩ := K6.out
      by_cases hf2 : fitZ (z ^ (j + 1))
      · have Hf2 := Lib.hid hf2
        rw [outZ_is hf2] at Hmul
        clear hf2
        go_wp2_with fail
        refine (rmul_any _ _ _ _ _ _ _ _ _ S6.out S.out).mono ?_
        rw [Hmul.out]
        rintro e w3 ⟨A7, c7, rfl, hs7, hb⟩
        clear q0 q1 q2 q3
        have S7 := Lib.hid hs7
        have K63 := Lib.hid (K6.out.keep hb)
        have F63 := Lib.hid (Fw.keep F6.out K6.out hb)
        have K3 := Lib.hid (K.out.keep hb)
        have S3 := Lib.hid (S.out.below hb)
        have F3 := Lib.hid (Fw.keep F.out R.out hb)
        have R3 := Lib.hid (R.out.keep hb)
        have B3 := Lib.hid (below_mono B.out hb)
        clear hb hs7 K6 F6 K S F R B S6
        have hz6 : g6 < w3.heap.size := lt_of_cell K63.out.1
        have hzr : w.heap.size + 1 < w3.heap.size := lt_of_cell R3.out.1
        obtain ⟨q2, q3⟩ := K63.out
        obtain ⟨f0, f1⟩ := F63.out
        go_wp2
        go_roundw
        case rel => exact ⟨j + 1, A7, c7, by go_num, hlt, Hf2.out, Cw.keep (Cw.new K63.out) (blw1 _ _), Fw.alloc (Fw.setW F63.out _ _) (Cw.new K63.out) _, (S7.out.setW K63.out.1 K63.out.2 _ _).alloc _, Cw.keep (K3.out.setW (by omega) _ _) (blw1 _ _), (S3.out.setW K63.out.1 K63.out.2 _ _).alloc _, Cw.keep (R3.out.setW (by omega) _ _) (blw1 _ _), Fw.alloc (Fw.setW F3.out _ _) (R3.out.setW (by omega) _ _) _, below_mono (below_setW B3.out (by omega) _ _) (blw1 _ _)⟩
        case measure => simp [intOf] <;> omega
      · have Hend : Hid (outZ (z ^ kn) = ((false, []), 16)) := outZ_not (fun h => hf2 (fit_pow (by omega) h))
        rw [outZ_not hf2] at Hmul
        clear hf2
        go_wp2_with fail
        refine (rmul_any _ _ _ _ _ _ _ _ _ S6.out S.out).mono ?_
        rw [Hmul.out]
        rintro e w3 ⟨A7, c7, rfl, hs7, hb⟩
        clear q0 q1 q2 q3
        have F3 := Lib.hid (Fw.keep F.out R.out hb)
        have R3 := Lib.hid (R.out.keep hb)
        have B3 := Lib.hid (below_mono B.out hb)
        clear hb hs7 K6 F6 K S F R B S6
        have hzr : w.heap.size + 1 < w3.heap.size := lt_of_cell R3.out.1
        obtain ⟨r0, r1⟩ := R3.out
        obtain ⟨f0, f1⟩ := F3.out
        go_wp2
        obtain ⟨y0, y1⟩ : Cw (((w3.setCell ⟨w.heap.size + 1, 0, none⟩ (.bool false)).setCell ⟨w.heap.size + 1, 1, none⟩ (.slice none 0 0)).alloc (.cells #[.bool false, .slice A7 0 c7] 24)) (w.heap.size + 1) false none 0 0 := Cw.keep (Cw.new R3.out) (blw1 _ _)
        exact bodyPost_ret (v := .tuple #[.agg #[.bool false, .slice none 0 0], .int .i64 16]) (by simp [results, Tryz.results29, go_sem, y0, y1]) rfl (by rw [Hend.out]; exact ⟨none, 0, rfl, Sl.nil _ _ _, below_mono (below_setW B3.out (by omega) _ _) (blw1 _ _)⟩)
    · obtain rfl : j = kn := by omega
      have hz6 : g6 < wr.heap.size := lt_of_cell K6.out.1
      obtain ⟨q2, q3⟩ := K6.out
      obtain ⟨r0, r1⟩ := R.out
      obtain ⟨f0, f1⟩ := F.out
      have Hend : Hid (outZ (z ^ j) = (wOf (z ^ j), 0)) := outZ_is Hfit.out
      go_wp2
      exact bodyPost_ret (v := .tuple #[.agg #[.bool (wOf (z ^ j)).1, .slice A6 (wOf (z ^ j)).2.length c6], .int .i64 0]) (by simp [results, Tryz.results29, go_sem, r0, r1]) rfl (by rw [Hend.out]; exact wres_store (r := (wOf (z ^ j), 0)) S6.out ⟨r0, r1⟩ B.out (by omega) _ _)

set_option maxRecDepth 100000 in
set_option maxHeartbeats 2000000 in
theorem rpow_arg (n : Bool) (A : Option Addr) (l : List Nat) (c : Nat) (k : Int) (w : World) (hs : Sl w A l c) (hbad : badL n l = false) (hk : k < 0 ∨ 1000 < k) :
    Calls Tryz.prog 29 #[.agg #[.bool n, .slice A l.length c], .int .i64 k] w (WRes (powS n l k) w) := by
  have Hs := Lib.hid hs
  rw [powS_arg hbad hk]
  have hc := chk_good hbad
  clear hs hbad
  by_cases h1 : k < 0
  · have d1 : decide (k < 0) = true := decide_eq_true h1
    go_enter Tryz.func29, Tryz.ntmps29
    go_wp2_with fail
    refine (rcheck_any n A l c _ ((Hs.out.alloc _).alloc _)).mono ?_
    rintro e w1 ⟨rfl, hb⟩
    have K : Hid (Cw w1 w.heap.size n A l.length c) := ⟨kept_cell hb (by go_simp), kept_cell hb (by go_simp)⟩
    have R : Hid (Cw w1 (w.heap.size + 1) false none 0 0) := ⟨kept_cell hb (by go_simp), kept_cell hb (by go_simp)⟩
    have F : Hid (Fw w1 (w.heap.size + 1)) := ⟨(hb.frozen (by simp)).trans (by go_simp), (hb.frozen (by simp)).trans (by go_simp)⟩
    have B : Hid (Below w.heap.size w w1) := below_mono (blw2 _ _ _) hb
    have S : Hid (Sl w1 A l c) := ((Hs.out.alloc _).alloc _).below hb
    clear hb
    obtain ⟨f0, f1⟩ := F.out
    obtain ⟨r0, r1⟩ := R.out
    go_wp2
    exact bodyPost_ret (v := .tuple #[.agg #[.bool false, .slice none 0 0], .int .i64 2]) (by simp [results, Tryz.results29, go_sem, r0, r1]) rfl (wres_store (r := ((false, []), 2)) (Sl.nil _ none 0) ⟨r0, r1⟩ B.out (by omega) _ _)
  · have d1 : decide (k < 0) = false := decide_eq_false h1
    have d2 : decide (1000 < k) = true := decide_eq_true (by omega)
    go_enter Tryz.func29, Tryz.ntmps29
    go_wp2_with fail
    refine (rcheck_any n A l c _ ((Hs.out.alloc _).alloc _)).mono ?_
    rintro e w1 ⟨rfl, hb⟩
    have K : Hid (Cw w1 w.heap.size n A l.length c) := ⟨kept_cell hb (by go_simp), kept_cell hb (by go_simp)⟩
    have R : Hid (Cw w1 (w.heap.size + 1) false none 0 0) := ⟨kept_cell hb (by go_simp), kept_cell hb (by go_simp)⟩
    have F : Hid (Fw w1 (w.heap.size + 1)) := ⟨(hb.frozen (by simp)).trans (by go_simp), (hb.frozen (by simp)).trans (by go_simp)⟩
    have B : Hid (Below w.heap.size w w1) := below_mono (blw2 _ _ _) hb
    have S : Hid (Sl w1 A l c) := ((Hs.out.alloc _).alloc _).below hb
    clear hb
    obtain ⟨f0, f1⟩ := F.out
    obtain ⟨r0, r1⟩ := R.out
    go_wp2
    exact bodyPost_ret (v := .tuple #[.agg #[.bool false, .slice none 0 0], .int .i64 2]) (by simp [results, Tryz.results29, go_sem, r0, r1]) rfl (wres_store (r := ((false, []), 2)) (Sl.nil _ none 0) ⟨r0, r1⟩ B.out (by omega) _ _)

set_option maxRecDepth 100000 in
set_option maxHeartbeats 2000000 in
theorem rpow_any (n : Bool) (A : Option Addr) (l : List Nat) (c : Nat) (k : Int) (w : World) (hs : Sl w A l c) :
    Calls Tryz.prog 29 #[.agg #[.bool n, .slice A l.length c], .int .i64 k] w (WRes (powS n l k) w) := by
  cases hbad : badL n l with
  | false =>
    by_cases hk : k < 0 ∨ 1000 < k
    · exact rpow_arg n A l c k w hs hbad hk
    · obtain ⟨kn, rfl⟩ := Int.eq_ofNat_of_zero_le (show 0 ≤ k by omega)
      exact rpow_good n A l c kn w hs hbad (by omega)
  | true =>
    have Hs := Lib.hid hs
    have hr : powS n l k = ((false, []), 8) := by unfold powS; rw [hbad, if_pos rfl]
    have hc := chk_bad hbad
    rw [hr]
    clear hr hbad hs
    go_enter Tryz.func29, Tryz.ntmps29
    go_wp2_with fail
    refine (rcheck_any n A l c _ ((Hs.out.alloc _).alloc _)).mono ?_
    rintro e w1 ⟨rfl, hb⟩
    have K : Hid (Cw w1 w.heap.size n A l.length c) := ⟨kept_cell hb (by go_simp), kept_cell hb (by go_simp)⟩
    have R : Hid (Cw w1 (w.heap.size + 1) false none 0 0) := ⟨kept_cell hb (by go_simp), kept_cell hb (by go_simp)⟩
    have F : Hid (Fw w1 (w.heap.size + 1)) := ⟨(hb.frozen (by simp)).trans (by go_simp), (hb.frozen (by simp)).trans (by go_simp)⟩
    have B : Hid (Below w.heap.size w w1) := below_mono (blw2 _ _ _) hb
    have S : Hid (Sl w1 A l c) := ((Hs.out.alloc _).alloc _).below hb
    clear hb
    obtain ⟨q0, q1⟩ := K.out
    go_wp2_with fail
    refine (rcheck_any n A l c _ S.out).mono ?_
    rintro e w2 ⟨rfl, hb⟩
    clear q0 q1
    replace F := kFw F R hb
    replace R : Hid (Cw w2 (w.heap.size + 1) false none 0 0) := R.out.keep hb
    replace B := kB B hb
    clear hb
    obtain ⟨f0, f1⟩ := F.out
    obtain ⟨r0, r1⟩ := R.out
    go_wp2
    exact bodyPost_ret (v := .tuple #[.agg #[.bool false, .slice none 0 0], .int .i64 8]) (by simp [results, Tryz.results29, go_sem, r0, r1]) rfl (wres_store (r := ((false, []), 8)) (Sl.nil _ none 0) ⟨r0, r1⟩ B.out (by omega) _ _)

end Go.Proofs.YtmelbahbjdogdaaGreatDoor

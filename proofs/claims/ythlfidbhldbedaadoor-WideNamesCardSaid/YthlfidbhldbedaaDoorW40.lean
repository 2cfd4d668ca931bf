/- Walks: wide.Shift. -/
import Derived.Test.YthlfidbhldbedaaDoorW2
import Derived.Test.YthlfidbhldbedaaDoorW11
import Derived.Test.YthlfidbhldbedaaDoorW23
import Derived.Test.YthlfidbhldbedaaDoorW28
import Derived.Test.YthlfidbhldbedaaDoorMath11
import Derived.Deep.RegionHeld3
namespace Go.Proofs.YthlfidbhldbedaaDoor
open Go.RowKit
attribute [local go_sem ↓] Go.wp_at_zero Go.wp_at_succ
set_option maxRecDepth 100000 in
set_option maxHeartbeats 2000000 in
theorem wshift_up (n : Bool) (A : Option Addr) (l : List Nat) (c kn : Nat) (w : World) (hs : Sl w A l c) (hbad : badL n l = false) (hk : kn ≤ 131072) :
    Calls Tryd.prog 11 #[.agg #[.bool n, .slice A l.length c], .int .i64 kn] w (WRes (shS n l kn) w) := by
  have Hs := Lib.hid hs
  obtain ⟨k1, m1, p1⟩ := good_canon hs.lim hbad
  have Hres : Hid (outN n (val l * 2 ^ kn) = shS n l kn) := (shS_up hbad hk).symm
  have hc := chk_good hbad
  generalize shS n l kn = r at *
  clear hs hbad k1 p1
  have d1 : decide ((kn : Int) < -131072) = false := decide_eq_false (by omega)
  have d2 : decide ((131072 : Int) < (kn : Int)) = false := decide_eq_false (by omega)
  go_enter Tryd.func11, Tryd.ntmps11
  go_wp2_with fail
  refine (check_any _ [⟨n, A, l, c⟩] (by simp) _ ?hc).mono ?_
  case hc => exact Wcs.one ((Hs.out.alloc _).alloc _) (by simp)
  rintro e w1 ⟨rfl, hb⟩
  rw [chkW_one]
  have K : Hid (Cw w1 w.heap.size n A l.length c) := ⟨kept_cell hb (by go_simp), kept_cell hb (by go_simp)⟩
  have R : Hid (Cw w1 (w.heap.size + 1) false none 0 0) := ⟨kept_cell hb (by go_simp), kept_cell hb (by go_simp)⟩
  have F : Hid (Fw w1 (w.heap.size + 1)) := ⟨(hb.frozen (by simp)).trans (by go_simp), (hb.frozen (by simp)).trans (by go_simp)⟩
  have B : Hid (Below w.heap.size w w1) := below_mono (blw3 _ _ _ _) hb
  have S : Hid (Sl w1 A l c) := (((Hs.out.alloc _).alloc _).alloc _).below hb
  clear hb
  obtain ⟨q0, q1⟩ := K.out
  go_wp2_with fail
  have J0 := Lib.hid K.out
  clear q0 q1
  go_region_held3 (fun w' => w'.cell? ⟨w.heap.size, 0, none⟩ = some (.bool n) ∧ w'.cell? ⟨w.heap.size, 1, none⟩ = some (.slice A l.length c))
    (first | exact set2 J2.out (by omega) _ _ | exact J2.out | exact J1.out | exact J0.out)
    (first
      | (go_at_call 26; refine (left_any A l c kn _ S.out.drew (by omega) (by omega)).mono ?_; rintro e v1 ⟨A5, c5, r5, rfl, hown, hl5, hv5, hn5, hb5⟩; have S5 := Lib.hid (hown.sl hl5 (by omega)); have V5 := Lib.hid hv5; have J1 := Lib.hid (keep2 hb5 J0.out); have R1 := Lib.hid (Cw.keep R.out.drew hb5); have F1 := Lib.hid (Fw.keep F.out.drew R.out.drew hb5); have B1 := Lib.hid (below_mono B.out.drew hb5); clear hb5 hown hl5 hv5 hn5)
      | (go_at_call 21; refine (made_any _ _ _ _ _ S5.out).mono ?_; rw [V5.out, Hres.out]; rintro e v2 ⟨A6, c6, rfl, hs6, hb6⟩; have S6 := Lib.hid hs6; have J2 := Lib.hid (keep2 hb6 J1.out); have B2 := Lib.hid (below_mono B1.out hb6); obtain ⟨f0, f1⟩ := Fw.keep F1.out R1.out hb6; obtain ⟨r0, r1⟩ := Cw.keep R1.out hb6; clear hs6 hb6))
  go_wp2
  exact bodyPost_ret (v := .tuple #[.agg #[.bool r.1.1, .slice A6 r.1.2.length c6], .int .i64 r.2]) (by simp [results, Tryd.results11, go_sem, r0, r1]) rfl (wres_store S6.out ⟨r0, r1⟩ B2.out (by omega) _ _)

set_option maxRecDepth 100000 in
set_option maxHeartbeats 2000000 in
theorem wshift_down (n : Bool) (A : Option Addr) (l : List Nat) (c m : Nat) (w : World) (hs : Sl w A l c) (hbad : badL n l = false) (h0 : 0 < m) (hk : m ≤ 131072) :
    Calls Tryd.prog 11 #[.agg #[.bool n, .slice A l.length c], .int .i64 (-(m : Int))] w (WRes (shS n l (-(m : Int))) w) := by
  have Hs := Lib.hid hs
  obtain ⟨k1, m1, p1⟩ := good_canon hs.lim hbad
  have Hres : Hid (outN n (val l / 2 ^ m + (if n && decide (0 < val l % 2 ^ m) then 1 else 0)) = shS n l (-(m : Int))) := (shS_down hbad h0 hk).symm
  have hc := chk_good hbad
  generalize shS n l (-(m : Int)) = r at *
  clear hs hbad k1 p1
  have d1 : decide (-(m : Int) < -131072) = false := decide_eq_false (by omega)
  have d2 : decide ((131072 : Int) < -(m : Int)) = false := decide_eq_false (by omega)
  cases n with
  | false =>
    simp only [Bool.false_and, Bool.false_eq_true, if_false, Nat.add_zero] at Hres
    go_enter Tryd.func11, Tryd.ntmps11
    go_wp2_with fail
    refine (check_any _ [⟨false, A, l, c⟩] (by simp) _ ?hc).mono ?_
    case hc => exact Wcs.one ((Hs.out.alloc _).alloc _) (by simp)
    rintro e w1 ⟨rfl, hb⟩
    rw [chkW_one]
    have K : Hid (Cw w1 w.heap.size false A l.length c) := ⟨kept_cell hb (by go_simp), kept_cell hb (by go_simp)⟩
    have R : Hid (Cw w1 (w.heap.size + 1) false none 0 0) := ⟨kept_cell hb (by go_simp), kept_cell hb (by go_simp)⟩
    have F : Hid (Fw w1 (w.heap.size + 1)) := ⟨(hb.frozen (by simp)).trans (by go_simp), (hb.frozen (by simp)).trans (by go_simp)⟩
    have B : Hid (Below w.heap.size w w1) := below_mono (blw3 _ _ _ _) hb
    have S : Hid (Sl w1 A l c) := (((Hs.out.alloc _).alloc _).alloc _).below hb
    clear hb
    obtain ⟨q0, q1⟩ := K.out
    go_wp2_with fail
    refine (right_any A l c m _ S.out (by omega) (by omega)).mono ?_
    rintro e w2 ⟨A5, c5, o5, rfl, hs5, hv5, hn5, hb⟩
    clear q0 q1
    have S5 := Lib.hid hs5
    have V5 := Lib.hid hv5
    have hn5' : o5.length ≤ 100000 := by omega
    replace F : Hid (Fw w2 (w.heap.size + 1)) := Fw.keep F.out R.out hb
    replace R : Hid (Cw w2 (w.heap.size + 1) false none 0 0) := Cw.keep R.out hb
    replace K : Hid (Cw w2 w.heap.size false A l.length c) := Cw.keep K.out hb
    replace B : Hid (Below w.heap.size w w2) := below_mono B.out hb
    clear hb hs5 hv5 hn5
    obtain ⟨q0, q1⟩ := K.out
    go_wp2_with fail
    refine (made_any _ A5 o5 c5 _ S5.out).mono ?_
    rw [V5.out, Hres.out]
    rintro e w4 ⟨A6, c6, rfl, hs6, hb6⟩
    have S6 := Lib.hid hs6
    have B2 := Lib.hid (below_mono B.out hb6)
    obtain ⟨f0, f1⟩ := Fw.keep F.out R.out hb6
    obtain ⟨r0, r1⟩ := Cw.keep R.out hb6
    clear hs6 hb6 q0 q1
    go_wp2
    exact bodyPost_ret (v := .tuple #[.agg #[.bool r.1.1, .slice A6 r.1.2.length c6], .int .i64 r.2]) (by simp [results, Tryd.results11, go_sem, r0, r1]) rfl (wres_store S6.out ⟨r0, r1⟩ B2.out (by omega) _ _)
  | true =>
    rw [Bool.true_and] at Hres
    cases hrest : decide (0 < val l % 2 ^ m) with
    | false =>
      rw [hrest, if_neg (by simp), Nat.add_zero] at Hres
      go_enter Tryd.func11, Tryd.ntmps11
      go_wp2_with fail
      refine (check_any _ [⟨true, A, l, c⟩] (by simp) _ ?hc).mono ?_
      case hc => exact Wcs.one ((Hs.out.alloc _).alloc _) (by simp)
      rintro e w1 ⟨rfl, hb⟩
      rw [chkW_one]
      have K : Hid (Cw w1 w.heap.size true A l.length c) := ⟨kept_cell hb (by go_simp), kept_cell hb (by go_simp)⟩
      have R : Hid (Cw w1 (w.heap.size + 1) false none 0 0) := ⟨kept_cell hb (by go_simp), kept_cell hb (by go_simp)⟩
      have F : Hid (Fw w1 (w.heap.size + 1)) := ⟨(hb.frozen (by simp)).trans (by go_simp), (hb.frozen (by simp)).trans (by go_simp)⟩
      have B : Hid (Below w.heap.size w w1) := below_mono (blw3 _ _ _ _) hb
      have S : Hid (Sl w1 A l c) := (((Hs.out.alloc _).alloc _).alloc _).below hb
      clear hb
      obtain ⟨q0, q1⟩ := K.out
      go_wp2_with fail
      refine (right_any A l c m _ S.out (by omega) (by omega)).mono ?_
      rintro e w2 ⟨A5, c5, o5, rfl, hs5, hv5, hn5, hb⟩
      clear q0 q1
      have S5 := Lib.hid hs5
      have V5 := Lib.hid hv5
      have hn5' : o5.length ≤ 100000 := by omega
      replace F : Hid (Fw w2 (w.heap.size + 1)) := Fw.keep F.out R.out hb
      replace R : Hid (Cw w2 (w.heap.size + 1) false none 0 0) := Cw.keep R.out hb
      replace K : Hid (Cw w2 w.heap.size true A l.length c) := Cw.keep K.out hb
      replace B : Hid (Below w.heap.size w w2) := below_mono B.out hb
      clear hb hs5 hv5 hn5
      obtain ⟨q0, q1⟩ := K.out
      go_wp2_with fail
      refine (made_any _ A5 o5 c5 _ S5.out).mono ?_
      rw [V5.out, Hres.out]
      rintro e w4 ⟨A6, c6, rfl, hs6, hb6⟩
      have S6 := Lib.hid hs6
      have B2 := Lib.hid (below_mono B.out hb6)
      obtain ⟨f0, f1⟩ := Fw.keep F.out R.out hb6
      obtain ⟨r0, r1⟩ := Cw.keep R.out hb6
      clear hs6 hb6 q0 q1
      go_wp2
      exact bodyPost_ret (v := .tuple #[.agg #[.bool r.1.1, .slice A6 r.1.2.length c6], .int .i64 r.2]) (by simp [results, Tryd.results11, go_sem, r0, r1]) rfl (wres_store S6.out ⟨r0, r1⟩ B2.out (by omega) _ _)
    | true =>
      rw [hrest, if_pos rfl] at Hres
      go_enter Tryd.func11, Tryd.ntmps11
      go_wp2_with fail
      refine (check_any _ [⟨true, A, l, c⟩] (by simp) _ ?hc).mono ?_
      case hc => exact Wcs.one ((Hs.out.alloc _).alloc _) (by simp)
      rintro e w1 ⟨rfl, hb⟩
      rw [chkW_one]
      have K : Hid (Cw w1 w.heap.size true A l.length c) := ⟨kept_cell hb (by go_simp), kept_cell hb (by go_simp)⟩
      have R : Hid (Cw w1 (w.heap.size + 1) false none 0 0) := ⟨kept_cell hb (by go_simp), kept_cell hb (by go_simp)⟩
      have F : Hid (Fw w1 (w.heap.size + 1)) := ⟨(hb.frozen (by simp)).trans (by go_simp), (hb.frozen (by simp)).trans (by go_simp)⟩
      have B : Hid (Below w.heap.size w w1) := below_mono (blw3 _ _ _ _) hb
      have S : Hid (Sl w1 A l c) := (((Hs.out.alloc _).alloc _).alloc _).below hb
      clear hb
      obtain ⟨q0, q1⟩ := K.out
      go_wp2_with fail
      refine (right_any A l c m _ S.out (by omega) (by omega)).mono ?_
      rintro e w2 ⟨A5, c5, o5, rfl, hs5, hv5, hn5, hb⟩
      clear q0 q1
      have S5 := Lib.hid hs5
      have V5 := Lib.hid hv5
      have hn5' : o5.length ≤ 100000 := by omega
      replace F : Hid (Fw w2 (w.heap.size + 1)) := Fw.keep F.out R.out hb
      replace R : Hid (Cw w2 (w.heap.size + 1) false none 0 0) := Cw.keep R.out hb
      replace K : Hid (Cw w2 w.heap.size true A l.length c) := Cw.keep K.out hb
      replace B : Hid (Below w.heap.size w w2) := below_mono B.out hb
      clear hb hs5 hv5 hn5
      obtain ⟨q0, q1⟩ := K.out
      go_wp2_with fail
      refine (plus_any A5 (some ⟨w2.heap.size, 0, none⟩) o5 [1] c5 1 _ (S5.out.alloc _) ⟨Rd.one _ _ _, lim_one (by omega), Nat.le_refl _, by simp⟩ (by omega) (by simp)).mono ?_
      rintro e w3 ⟨A7, c7, x7, rfl, hs7, hv7, hn7, hb⟩
      clear q0 q1
      have S7 := Lib.hid hs7
      have V7 : Hid (val x7 = val l / 2 ^ m + 1) := by unfold Hid; rw [hv7, V5.out]; simp [val]
      replace F : Hid (Fw w3 (w.heap.size + 1)) := Fw.keep (Fw.alloc F.out R.out _) (Cw.keep R.out (blw1 _ _)) hb
      replace R : Hid (Cw w3 (w.heap.size + 1) false none 0 0) := Cw.keep (Cw.keep R.out (blw1 _ _)) hb
      replace K : Hid (Cw w3 w.heap.size true A l.length c) := Cw.keep (Cw.keep K.out (blw1 _ _)) hb
      replace B : Hid (Below w.heap.size w w3) := below_mono (below_mono B.out (blw1 _ _)) hb
      clear hb hs7 hv7 hn7
      obtain ⟨q0, q1⟩ := K.out
      go_wp2_with fail
      refine (made_any _ A7 x7 c7 _ S7.out).mono ?_
      rw [V7.out, Hres.out]
      rintro e w4 ⟨A6, c6, rfl, hs6, hb6⟩
      have S6 := Lib.hid hs6
      have B2 := Lib.hid (below_mono B.out hb6)
      obtain ⟨f0, f1⟩ := Fw.keep F.out R.out hb6
      obtain ⟨r0, r1⟩ := Cw.keep R.out hb6
      clear hs6 hb6 q0 q1
      go_wp2
      exact bodyPost_ret (v := .tuple #[.agg #[.bool r.1.1, .slice A6 r.1.2.length c6], .int .i64 r.2]) (by simp [results, Tryd.results11, go_sem, r0, r1]) rfl (wres_store S6.out ⟨r0, r1⟩ B2.out (by omega) _ _)

set_option maxRecDepth 100000 in
set_option maxHeartbeats 2000000 in
theorem wshift_arg (n : Bool) (A : Option Addr) (l : List Nat) (c : Nat) (k : Int) (w : World) (hs : Sl w A l c) (hbad : badL n l = false) (hk : k < -131072 ∨ 131072 < k) :
    Calls Tryd.prog 11 #[.agg #[.bool n, .slice A l.length c], .int .i64 k] w (WRes (shS n l k) w) := by
  have Hs := Lib.hid hs
  rw [shS_arg hbad hk]
  have hc := chk_good hbad
  clear hs hbad
  by_cases h1 : k < -131072
  · have d1 : decide (k < -131072) = true := decide_eq_true h1
    go_enter Tryd.func11, Tryd.ntmps11
    go_wp2_with fail
    refine (check_any _ [⟨n, A, l, c⟩] (by simp) _ ?hc).mono ?_
    case hc => exact Wcs.one ((Hs.out.alloc _).alloc _) (by simp)
    rintro e w1 ⟨rfl, hb⟩
    rw [chkW_one]
    have K : Hid (Cw w1 w.heap.size n A l.length c) := ⟨kept_cell hb (by go_simp), kept_cell hb (by go_simp)⟩
    have R : Hid (Cw w1 (w.heap.size + 1) false none 0 0) := ⟨kept_cell hb (by go_simp), kept_cell hb (by go_simp)⟩
    have F : Hid (Fw w1 (w.heap.size + 1)) := ⟨(hb.frozen (by simp)).trans (by go_simp), (hb.frozen (by simp)).trans (by go_simp)⟩
    have B : Hid (Below w.heap.size w w1) := below_mono (blw3 _ _ _ _) hb
    have S : Hid (Sl w1 A l c) := (((Hs.out.alloc _).alloc _).alloc _).below hb
    clear hb
    obtain ⟨f0, f1⟩ := F.out
    obtain ⟨r0, r1⟩ := R.out
    go_wp2
    exact bodyPost_ret (v := .tuple #[.agg #[.bool false, .slice none 0 0], .int .i64 2]) (by simp [results, Tryd.results11, go_sem, r0, r1]) rfl (wres_store (r := ((false, []), 2)) (Sl.nil _ none 0) ⟨r0, r1⟩ B.out (by omega) _ _)
  · have d1 : decide (k < -131072) = false := decide_eq_false h1
    have d2 : decide (131072 < k) = true := decide_eq_true (by omega)
    go_enter Tryd.func11, Tryd.ntmps11
    go_wp2_with fail
    refine (check_any _ [⟨n, A, l, c⟩] (by simp) _ ?hc).mono ?_
    case hc => exact Wcs.one ((Hs.out.alloc _).alloc _) (by simp)
    rintro e w1 ⟨rfl, hb⟩
    rw [chkW_one]
    have K : Hid (Cw w1 w.heap.size n A l.length c) := ⟨kept_cell hb (by go_simp), kept_cell hb (by go_simp)⟩
    have R : Hid (Cw w1 (w.heap.size + 1) false none 0 0) := ⟨kept_cell hb (by go_simp), kept_cell hb (by go_simp)⟩
    have F : Hid (Fw w1 (w.heap.size + 1)) := ⟨(hb.frozen (by simp)).trans (by go_simp), (hb.frozen (by simp)).trans (by go_simp)⟩
    have B : Hid (Below w.heap.size w w1) := below_mono (blw3 _ _ _ _) hb
    have S : Hid (Sl w1 A l c) := (((Hs.out.alloc _).alloc _).alloc _).below hb
    clear hb
    obtain ⟨f0, f1⟩ := F.out
    obtain ⟨r0, r1⟩ := R.out
    go_wp2
    exact bodyPost_ret (v := .tuple #[.agg #[.bool false, .slice none 0 0], .int .i64 2]) (by simp [results, Tryd.results11, go_sem, r0, r1]) rfl (wres_store (r := ((false, []), 2)) (Sl.nil _ none 0) ⟨r0, r1⟩ B.out (by omega) _ _)

set_option maxRecDepth 100000 in
set_option maxHeartbeats 2000000 in
theorem wshift_any (n : Bool) (A : Option Addr) (l : List Nat) (c : Nat) (k : Int) (w : World) (hs : Sl w A l c) :
    Calls Tryd.prog 11 #[.agg #[.bool n, .slice A l.length c], .int .i64 k] w (WRes (shS n l k) w) := by
  cases hbad : badL n l with
  | false =>
    by_cases hk : k < -131072 ∨ 131072 < k
    · exact wshift_arg n A l c k w hs hbad hk
    · by_cases h0 : 0 ≤ k
      · obtain ⟨kn, rfl⟩ := Int.eq_ofNat_of_zero_le h0
        exact wshift_up n A l c kn w hs hbad (by omega)
      · obtain ⟨m, hm⟩ := Int.eq_ofNat_of_zero_le (show 0 ≤ -k by omega)
        obtain rfl : k = -(m : Int) := by omega
        exact wshift_down n A l c m w hs hbad (by omega) (by omega)
  | true =>
    have Hs := Lib.hid hs
    have hr : shS n l k = ((false, []), 8) := by unfold shS; rw [hbad, if_pos rfl]
    have hc := chk_bad hbad
    rw [hr]
    clear hr hbad hs
    go_enter Tryd.func11, Tryd.ntmps11
    go_wp2_with fail
    refine (check_any _ [⟨n, A, l, c⟩] (by simp) _ ?hc).mono ?_
    case hc => exact Wcs.one ((Hs.out.alloc _).alloc _) (by simp)
    rintro e w1 ⟨rfl, hb⟩
    rw [chkW_one]
    have K : Hid (Cw w1 w.heap.size n A l.length c) := ⟨kept_cell hb (by go_simp), kept_cell hb (by go_simp)⟩
    have R : Hid (Cw w1 (w.heap.size + 1) false none 0 0) := ⟨kept_cell hb (by go_simp), kept_cell hb (by go_simp)⟩
    have F : Hid (Fw w1 (w.heap.size + 1)) := ⟨(hb.frozen (by simp)).trans (by go_simp), (hb.frozen (by simp)).trans (by go_simp)⟩
    have B : Hid (Below w.heap.size w w1) := below_mono (blw3 _ _ _ _) hb
    have S : Hid (Sl w1 A l c) := (((Hs.out.alloc _).alloc _).alloc _).below hb
    clear hb
    obtain ⟨f0, f1⟩ := F.out
    obtain ⟨r0, r1⟩ := R.out
    go_wp2
    exact bodyPost_ret (v := .tuple #[.agg #[.bool false, .slice none 0 0], .int .i64 8]) (by simp [results, Tryd.results11, go_sem, r0, r1]) rfl (wres_store (r := ((false, []), 8)) (Sl.nil _ none 0) ⟨r0, r1⟩ B.out (by omega) _ _)

end Go.Proofs.YthlfidbhldbedaaDoor

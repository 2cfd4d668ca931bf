/- Walks: the reference's Shift. -/
import Derived.Test.YtejapkdhbpngbaaW7
import Derived.Test.YtejapkdhbpngbaaW15
import Derived.Test.YtejapkdhbpngbaaW24
import Derived.Test.YtejapkdhbpngbaaW35
import Derived.Test.YtejapkdhbpngbaaMath11
import Derived.Test.YtejapkdhbpngbaaMem9
import Derived.Deep.RegionHeld3
namespace Go.Proofs.Ytejapkdhbpngbaa
open Go.RowKit
attribute [local go_sem ↓] Go.wp_at_zero Go.wp_at_succ

set_option maxRecDepth 100000 in
set_option maxHeartbeats 4000000 in
theorem rshift_up (n : Bool) (A : Option Addr) (l : List Nat) (c kn : Nat) (w : World) (hs : Sl w A l c) (hbad : badL n l = false) (hk : kn ≤ 131072) :
    Calls Try.prog 36 #[.agg #[.bool n, .slice A l.length c], .int .i64 kn] w (WRes (shS n l kn) w) := by
  have Hs := Lib.hid hs
  obtain ⟨k1, m1, p1⟩ := good_canon hs.lim hbad
  have Hres : Hid (outN n (val l * 2 ^ kn) = shS n l kn) := (shS_up hbad hk).symm
  have hc := chk_good hbad
  generalize shS n l kn = r at *
  clear hs hbad k1 p1
  obtain ⟨i0, hi, hz0, hz1, hz2⟩ := info_parts info32
  obtain ⟨kq, hkq⟩ : ∃ kq, kq = kn / 32 := ⟨_, rfl⟩
  obtain ⟨kr, hkr⟩ : ∃ kr, kr = kn % 32 := ⟨_, rfl⟩
  have hkr2 : kr < 32 := by omega
  have hq2 : kq ≤ 35184372088832 := by omega
  have hq3 : kq ≤ 5000 := by omega
  have hkqz : (kn : Int) / 32 = (kq : Int) := by omega
  have hkrz : (kn : Int) % 32 = (kr : Int) := by omega
  have hkrt : (kn : Int).tmod 32 = (kr : Int) := by rw [Int.tmod_eq_emod_of_nonneg (by omega)]; exact hkrz
  have hwq : IntKind.i64.wrap (kq : Int) = (kq : Int) := by rw [IntKind.wrap_i64]; omega
  have hwr : IntKind.u64.wrap (kr : Int) = (kr : Int) := by rw [IntKind.wrap_u64]; omega
  have Hval : Hid (∀ r, val r = val l * 2 ^ kr → val (List.replicate kq 0 ++ r) = val l * 2 ^ kn) := by
    intro r h
    rw [hkq]; rw [hkr] at h
    exact val_shl l kn r h
  have hmk := fun W => run_make32 (P := Try.prog) 22 58 i0 Try.underlying22 hi hz0 hz1 hz2 (kq : Int) (kq : Int) kq kq rfl rfl (Nat.le_refl _) hq2 W
  clear hkq hkr
  have d1 : decide ((kn : Int) < -131072) = false := decide_eq_false (by omega)
  have d2 : decide ((131072 : Int) < (kn : Int)) = false := decide_eq_false (by omega)
  go_enter Try.func36, Try.ntmps36
  go_wp2_with fail
  refine (rcheck_any n A l c _ ((Hs.out.alloc _).alloc _)).mono ?_
  rintro e w1 ⟨rfl, hb⟩
  have K : Hid (Cw w1 w.heap.size n A l.length c) := ⟨kept_cell hb (by go_simp), kept_cell hb (by go_simp)⟩
  have R : Hid (Cw w1 (w.heap.size + 1) false none 0 0) := ⟨kept_cell hb (by go_simp), kept_cell hb (by go_simp)⟩
  have F : Hid (Fw w1 (w.heap.size + 1)) := ⟨(hb.frozen (by simp)).trans (by go_simp), (hb.frozen (by simp)).trans (by go_simp)⟩
  have B : Hid (Below w.heap.size w w1) := below_mono (blw2 _ _ _) hb
  have S : Hid (Sl w1 A l c) := ((Hs.out.alloc _).alloc _).below hb
  clear hb
  obtain ⟨q0, q1⟩ := K.out
  go_wp2_with fail
  have X0 : Hid (SB w n A l.length c w1) := ⟨K.out, R.out, F.out, B.out⟩
  have hs1 : w.heap.size + 1 < w1.heap.size := X0.out.lt
  have hle : w.heap.size ≤ w1.drew.heap.size := Nat.le_trans (Nat.le_succ_of_le (Nat.le_refl _)) (Nat.le_of_lt hs1)
  clear q0 q1 K R F B
  go_region_held3 (fun w' => w'.cell? ⟨w.heap.size, 0, none⟩ = some (.bool n) ∧ w'.cell? ⟨w.heap.size, 1, none⟩ = some (.slice A l.length c))
    (first | exact set2 X3.out.ka (by omega) _ _ | exact X3.out.ka | exact X2.out.ka | exact (X1.out.alloc _).ka | exact X1.out.ka | exact (X0.out.drew.alloc _).ka | exact X0.out.drew.ka)
    (first
      | (go_at_call 60; refine (rleft_any A l c kr _ ?hs (by omega) (by omega)).mono ?_; (case hs => first | exact S.out.drew | exact S.out.drew.alloc _); rintro e v1 ⟨A5, c5, r5, rfl, hown, hl5, hv5, hn5, hb5⟩; have S5 := Lib.hid (hown.sl hl5 (by omega)); have V5 := Lib.hid hv5; have X1 : Hid (SB w n A l.length c v1) := (by first | exact X0.out.drew.keep hb5 | exact (X0.out.drew.alloc _).keep hb5); have hx1 : w.heap.size + 1 < v1.heap.size := X1.out.lt; have hle1 : w.heap.size ≤ v1.heap.size := (by omega); (try (have HZ : Hid (Ow v1 w.heap.size 58 (.slice (some ⟨w1.heap.size, 0, none⟩) kq kq) (List.replicate kq 0)) := Ow.below ((ow_zrow w1.drew _ _ _ (Nat.le_refl _) hq2).mono hle) hb5 (Nat.le_refl _))); have hr5 : r5.length ≤ 5000 := (by omega); clear hb5 hown hl5 hv5 hn5)
      | (go_at_call 44; refine (rmade_any _ _ _ _ _ S7.out).mono ?_; rw [V7.out, Hres.out]; rintro e v2 ⟨A6, c6, rfl, hs6, hb6⟩; have S6 := Lib.hid hs6; have X3 := Lib.hid (X2.out.keep hb6); obtain ⟨f0, f1⟩ := X3.out.f; obtain ⟨r0, r1⟩ := X3.out.r; clear hs6 hb6)
      | (refine step_app (by rfl) _ _ _ (by rfl) w.heap.size 58 i0 Try.underlying22 hi hz0 hz1 hz2 (.slice (some ⟨w1.heap.size, 0, none⟩) kq kq) (List.replicate kq 0) (by rfl) HZ.out A5 r5.length r5 c5 (by rfl) rfl S5.out.rd (by rw [List.length_replicate]; omega) (by omega) ?_; intro A7 c7 w7 hown7 hgrow7 hat7; have S7 := Lib.hid (hown7.sl (lim_append (lim_replicate _) S5.out.lim) (by rw [List.length_append, List.length_replicate]; omega)); have V7 : Hid (val (List.replicate kq 0 ++ r5) = val l * 2 ^ kn) := Hval.out _ V5.out; have X2 := Lib.hid (SB.grown X1.out hgrow7 (fun k e => by cases e; exact hs1)); clear hown7 hgrow7 hat7; generalize List.replicate kq 0 ++ r5 = L7 at *)
      | (refine step_app (by rfl) _ _ _ (by rfl) w.heap.size 58 i0 Try.underlying22 hi hz0 hz1 hz2 (.slice (some ⟨v1.heap.size, 0, none⟩) kq kq) (List.replicate kq 0) (by rfl) ((ow_zrow v1 _ _ _ (Nat.le_refl _) hq2).mono hle1) A5 r5.length r5 c5 (by rfl) rfl (S5.out.alloc _).rd (by rw [List.length_replicate]; omega) (by simp <;> omega) ?_; intro A7 c7 w7 hown7 hgrow7 hat7; have S7 := Lib.hid (hown7.sl (lim_append (lim_replicate _) S5.out.lim) (by rw [List.length_append, List.length_replicate]; omega)); have V7 : Hid (val (List.replicate kq 0 ++ r5) = val l * 2 ^ kn) := Hval.out _ V5.out; have X2 := Lib.hid (SB.grown (X1.out.alloc _) hgrow7 (fun k e => by cases e; exact hx1)); clear hown7 hgrow7 hat7; generalize List.replicate kq 0 ++ r5 = L7 at *))
  all_goals (go_wp2; exact bodyPost_ret (v := .tuple #[.agg #[.bool r.1.1, .slice A6 r.1.2.length c6], .int .i64 r.2]) (by simp [results, Try.results36, go_sem, r0, r1]) rfl (wres_store S6.out ⟨r0, r1⟩ X3.out.b (by omega) _ _))

set_option maxRecDepth 100000 in
set_option maxHeartbeats 2000000 in
theorem rshift_arg (n : Bool) (A : Option Addr) (l : List Nat) (c : Nat) (k : Int) (w : World) (hs : Sl w A l c) (hbad : badL n l = false) (hk : k < -131072 ∨ 131072 < k) :
    Calls Try.prog 36 #[.agg #[.bool n, .slice A l.length c], .int .i64 k] w (WRes (shS n l k) w) := by
  have Hs := Lib.hid hs
  rw [shS_arg hbad hk]
  have hc := chk_good hbad
  clear hs hbad
  by_cases h1 : k < -131072
  · have d1 : decide (k < -131072) = true := decide_eq_true h1
    go_enter Try.func36, Try.ntmps36
    go_wp2_with fail
    refine (rcheck_any n A l c _ ((Hs.out.alloc _).alloc _)).mono ?_
    rintro e w1 ⟨rfl, hb⟩
    have K : Hid (Cw w1 w.heap.size n A l.length c) := ⟨kept_cell hb (by go_simp), kept_cell hb (by go_simp)⟩
    have R : Hid (Cw w1 (w.heap.size + 1) false none 0 0) := ⟨kept_cell hb (by go_simp), kept_cell hb (by go_simp)⟩
    have F : Hid (Fw w1 (w.heap.size + 1)) := ⟨(hb.frozen (by simp)).trans (by go_simp), (hb.frozen (by simp)).trans (by go_simp)⟩
    have B : Hid (Below w.heap.size w w1) := below_mono (blw2 _ _ _) hb
    have S : Hid (Sl w1 A l c) := ((Hs.out.alloc _).alloc _).below hb
    clear hb
    obtain ⟨q0, q1⟩ := K.out
    obtain ⟨f0, f1⟩ := F.out
    obtain ⟨r0, r1⟩ := R.out
    go_wp2
    exact bodyPost_ret (v := .tuple #[.agg #[.bool false, .slice none 0 0], .int .i64 2]) (by simp [results, Try.results36, go_sem, r0, r1]) rfl (wres_store (r := ((false, []), 2)) (Sl.nil _ none 0) ⟨r0, r1⟩ B.out (by omega) _ _)
  · have d1 : decide (k < -131072) = false := decide_eq_false h1
    have d2 : decide (131072 < k) = true := decide_eq_true (by omega)
    go_enter Try.func36, Try.ntmps36
    go_wp2_with fail
    refine (rcheck_any n A l c _ ((Hs.out.alloc _).alloc _)).mono ?_
    rintro e w1 ⟨rfl, hb⟩
    have K : Hid (Cw w1 w.heap.size n A l.length c) := ⟨kept_cell hb (by go_simp), kept_cell hb (by go_simp)⟩
    have R : Hid (Cw w1 (w.heap.size + 1) false none 0 0) := ⟨kept_cell hb (by go_simp), kept_cell hb (by go_simp)⟩
    have F : Hid (Fw w1 (w.heap.size + 1)) := ⟨(hb.frozen (by simp)).trans (by go_simp), (hb.frozen (by simp)).trans (by go_simp)⟩
    have B : Hid (Below w.heap.size w w1) := below_mono (blw2 _ _ _) hb
    have S : Hid (Sl w1 A l c) := ((Hs.out.alloc _).alloc _).below hb
    clear hb
    obtain ⟨q0, q1⟩ := K.out
    obtain ⟨f0, f1⟩ := F.out
    obtain ⟨r0, r1⟩ := R.out
    go_wp2
    exact bodyPost_ret (v := .tuple #[.agg #[.bool false, .slice none 0 0], .int .i64 2]) (by simp [results, Try.results36, go_sem, r0, r1]) rfl (wres_store (r := ((false, []), 2)) (Sl.nil _ none 0) ⟨r0, r1⟩ B.out (by omega) _ _)

set_option maxRecDepth 100000 in
set_option maxHeartbeats 2000000 in
theorem rshift_bad (n : Bool) (A : Option Addr) (l : List Nat) (c : Nat) (k : Int) (w : World) (hs : Sl w A l c) (hbad : badL n l = true) :
    Calls Try.prog 36 #[.agg #[.bool n, .slice A l.length c], .int .i64 k] w (WRes (shS n l k) w) := by
  have Hs := Lib.hid hs
  have hr : shS n l k = ((false, []), 8) := by unfold shS; rw [hbad, if_pos rfl]
  have hc := chk_bad hbad
  rw [hr]
  clear hr hbad hs
  go_enter Try.func36, Try.ntmps36
  go_wp2_with fail
  refine (rcheck_any n A l c _ ((Hs.out.alloc _).alloc _)).mono ?_
  rintro e w1 ⟨rfl, hb⟩
  have K : Hid (Cw w1 w.heap.size n A l.length c) := ⟨kept_cell hb (by go_simp), kept_cell hb (by go_simp)⟩
  have R : Hid (Cw w1 (w.heap.size + 1) false none 0 0) := ⟨kept_cell hb (by go_simp), kept_cell hb (by go_simp)⟩
  have F : Hid (Fw w1 (w.heap.size + 1)) := ⟨(hb.frozen (by simp)).trans (by go_simp), (hb.frozen (by simp)).trans (by go_simp)⟩
  have B : Hid (Below w.heap.size w w1) := below_mono (blw2 _ _ _) hb
  have S : Hid (Sl w1 A l c) := ((Hs.out.alloc _).alloc _).below hb
  clear hb
  obtain ⟨q0, q1⟩ := K.out
  go_wp2_with fail
  refine (rcheck_any n A l c _ S.out).mono ?_
  rintro e w2 ⟨rfl, hb⟩
  clear q0 q1
  replace F : Hid (Fw w2 (w.heap.size + 1)) := Fw.keep F.out R.out hb
  replace R : Hid (Cw w2 (w.heap.size + 1) false none 0 0) := R.out.keep hb
  replace B : Hid (Below w.heap.size w w2) := below_mono B.out hb
  clear hb
  obtain ⟨f0, f1⟩ := F.out
  obtain ⟨r0, r1⟩ := R.out
  go_wp2
  exact bodyPost_ret (v := .tuple #[.agg #[.bool false, .slice none 0 0], .int .i64 8]) (by simp [results, Try.results36, go_sem, r0, r1]) rfl (wres_store (r := ((false, []), 8)) (Sl.nil _ none 0) ⟨r0, r1⟩ B.out (by omega) _ _)
end Go.Proofs.Ytejapkdhbpngbaa

/- Walks: the reference's Shift, down. -/
namespace Go.Proofs.Ytejapkdhbpngbaa
open Go.RowKit
attribute [local go_sem ↓] Go.wp_at_zero Go.wp_at_succ

/-- 2^m as limbs: zeros, then one limb. -/
theorem rsh_pow {m kq kr : Nat} (hq : kq = m / 32) (hr : kr = m % 32) : List.replicate kq 0 ++ [2 ^ kr] = limbs (2 ^ m) := by
  have h32 : kr < 32 := by omega
  have hlt : 2 ^ kr < 4294967296 := Nat.pow_lt_pow_right (by omega) (show kr < 32 from h32)
  have hpos : 0 < 2 ^ kr := Nat.two_pow_pos _
  refine (canon_inj (canon_limbs _) ⟨lim_append (lim_replicate _) (lim_one hlt), fun _ => ?_⟩ ?_).symm
  · simp
  · rw [val_limbs, val_zeros, hq, hr, ← pow_split m]; simp [val]

theorem u32_pow {kr : Nat} (h : kr < 32) : IntKind.u32.wrap ((2 : Int) ^ kr) = ((2 ^ kr : Nat) : Int) := by
  have hlt : 2 ^ kr < 4294967296 := Nat.pow_lt_pow_right (by omega) (show kr < 32 from h)
  have e : (2 : Int) ^ kr = ((2 ^ kr : Nat) : Int) := by push_cast; rfl
  rw [e, IntKind.wrap_u32]
  generalize 2 ^ kr = x at *
  omega
theorem Rd.onev' {w : World} {b : Nat} (hb : b = w.heap.size) {z : Int} {x : Nat} (hv : z = x) (e : TypeId) : Rd (w.alloc (.cells #[.int .u32 z] e)) (some ⟨b, 0, none⟩) [x] := hb ▸ Rd.onev w hv e
theorem ow_zrow' {w : World} {b n : Nat} {e : TypeId} (hb : b = w.heap.size) (hn : n ≤ 35184372088832) : Ow (w.alloc (.cells (zrow n) e)) b e (.slice (some ⟨b, 0, none⟩) n n) (List.replicate n 0) := hb ▸ ow_zrow w e n n (Nat.le_refl _) hn

set_option maxRecDepth 100000 in
set_option maxHeartbeats 4000000 in
theorem rshift_down (n : Bool) (A : Option Addr) (l : List Nat) (c m : Nat) (w : World) (hs : Sl w A l c) (hbad : badL n l = false) (h0 : 0 < m) (hk : m ≤ 131072) :
    Calls Try.prog 36 #[.agg #[.bool n, .slice A l.length c], .int .i64 (-(m : Int))] w (WRes (shS n l (-(m : Int))) w) := by
  have Hs := Lib.hid hs
  obtain ⟨k1, m1, p1⟩ := good_canon hs.lim hbad
  have Hk1 := Lib.hid k1
  have Hres : Hid (outN n (val l / 2 ^ m + (if n && decide (0 < val l % 2 ^ m) then 1 else 0)) = shS n l (-(m : Int))) := (shS_down hbad h0 hk).symm
  have hc := chk_good hbad
  generalize shS n l (-(m : Int)) = r at *
  clear hs hbad k1 p1
  have d1 : decide (-(m : Int) < -131072) = false := decide_eq_false (by omega)
  have d2 : decide ((131072 : Int) < -(m : Int)) = false := decide_eq_false (by omega)
  obtain ⟨i0, hi, hz0, hz1, hz2⟩ := info_parts info32
  obtain ⟨kq, hkq⟩ : ∃ kq, kq = m / 32 := ⟨_, rfl⟩
  obtain ⟨kr, hkr⟩ : ∃ kr, kr = m % 32 := ⟨_, rfl⟩
  have hkr2 : kr < 32 := by omega
  have hq2 : kq ≤ 35184372088832 := by omega
  have hq3 : kq ≤ 5000 := by omega
  have hkqz : (m : Int) / 32 = (kq : Int) := by omega
  have hkrz : (m : Int) % 32 = (kr : Int) := by omega
  have hkrt : (m : Int).tmod 32 = (kr : Int) := by rw [Int.tmod_eq_emod_of_nonneg (by omega)]; exact hkrz
  have hwq : IntKind.i64.wrap (kq : Int) = (kq : Int) := by rw [IntKind.wrap_i64]; omega
  have hmk := fun W => run_make32 (P := Try.prog) 22 58 i0 Try.underlying22 hi hz0 hz1 hz2 (kq : Int) (kq : Int) kq kq rfl rfl (Nat.le_refl _) hq2 W
  have Hpow : Hid (List.replicate kq 0 ++ [2 ^ kr] = limbs (2 ^ m)) := rsh_pow hkq hkr
  have hlm : (limbs (2 ^ m)).length ≤ 5001 := by rw [← Hpow.out]; simp; omega
  have Hz : Hid (IntKind.u32.wrap ((2 : Int) ^ kr) = ((2 ^ kr : Nat) : Int)) := u32_pow hkr2
  clear hkq hkr
  cases n with
  | false =>
    simp only [Bool.false_and, Bool.false_eq_true, if_false, Nat.add_zero] at Hres
    go_enter Try.func36, Try.ntmps36
    go_wp2_with fail
    refine (rcheck_any false A l c _ ((Hs.out.alloc _).alloc _)).mono ?_
    rintro e w1 ⟨rfl, hb⟩
    have K : Hid (Cw w1 w.heap.size false A l.length c) := ⟨kept_cell hb (by go_simp), kept_cell hb (by go_simp)⟩
    have R : Hid (Cw w1 (w.heap.size + 1) false none 0 0) := ⟨kept_cell hb (by go_simp), kept_cell hb (by go_simp)⟩
    have F : Hid (Fw w1 (w.heap.size + 1)) := ⟨(hb.frozen (by simp)).trans (by go_simp), (hb.frozen (by simp)).trans (by go_simp)⟩
    have B : Hid (Below w.heap.size w w1) := below_mono (blw2 _ _ _) hb
    have S : Hid (Sl w1 A l c) := ((Hs.out.alloc _).alloc _).below hb
    clear hb
    obtain ⟨q0, q1⟩ := K.out
    go_wp2_with fail
    have X0 : Hid (SB w false A l.length c w1) := ⟨K.out, R.out, F.out, B.out⟩
    have hs1 : w.heap.size + 1 < w1.heap.size := X0.out.lt
    have hle : w.heap.size ≤ w1.heap.size := Nat.le_trans (Nat.le_succ_of_le (Nat.le_refl _)) (Nat.le_of_lt hs1)
    clear q0 q1 K R F B
    go_region_held3 (fun w' => w'.cell? ⟨w.heap.size, 0, none⟩ = some (.bool false) ∧ w'.cell? ⟨w.heap.size, 1, none⟩ = some (.slice A l.length c))
      (first | exact X2.out.ka | exact ((X0.out.alloc _).alloc _).drew.ka | exact (X0.out.alloc _).drew.ka | exact X0.out.drew.ka)
      (first
        | ((refine step_app (by rfl) _ _ _ (by rfl) w.heap.size 58 i0 Try.underlying22 hi hz0 hz1 hz2 (.slice (some ⟨w1.heap.size, 0, none⟩) kq kq) (List.replicate kq 0) (by rfl) (((ow_zrow w1 _ _ _ (Nat.le_refl _) hq2).mono hle).alloc _).drew (some ⟨w1.heap.size + 1, 0, none⟩) 1 [2 ^ kr] 1 (by rfl) (by rfl) (Rd.onev' (by simp) Hz.out _).drew (by rw [List.length_replicate]; simp; omega) (by simp <;> omega) ?_; intro A7 c7 w7 hown7 hgrow7 hat7; rw [Hpow.out] at hown7 ⊢; have S7 := Lib.hid (hown7.sl (lim_limbs _) (by omega)); have X2 : Hid (SB w false A l.length c w7) := Lib.hid (SB.grown ((X0.out.alloc _).alloc _).drew hgrow7 (fun k e => by cases e; exact hs1)); have S3 : Hid (Sl w7 A l c) := Lib.hid (S.out.below (grown_below (blw2 w1 _ _).drew hgrow7 (by simp <;> omega) (fun k e => by cases e; first | exact Nat.le_refl _ | exact Nat.le_succ _))); clear hown7 hgrow7 hat7))
        | ((refine step_app (by rfl) _ _ _ (by rfl) w.heap.size 58 i0 Try.underlying22 hi hz0 hz1 hz2 (.slice (some ⟨w1.heap.size + 1, 0, none⟩) kq kq) (List.replicate kq 0) (by rfl) ((ow_zrow' (by simp) hq2).mono (by omega)).drew (some ⟨w1.heap.size, 0, none⟩) 1 [2 ^ kr] 1 (by rfl) (by rfl) ((Rd.onev' rfl Hz.out _).alloc _).drew (by rw [List.length_replicate]; simp; omega) (by simp <;> omega) ?_; intro A7 c7 w7 hown7 hgrow7 hat7; rw [Hpow.out] at hown7 ⊢; have S7 := Lib.hid (hown7.sl (lim_limbs _) (by omega)); have X2 : Hid (SB w false A l.length c w7) := Lib.hid (SB.grown ((X0.out.alloc _).alloc _).drew hgrow7 (fun k e => by cases e; show w.heap.size + 1 < w1.heap.size + 1; omega)); have S3 : Hid (Sl w7 A l c) := Lib.hid (S.out.below (grown_below (blw2 w1 _ _).drew hgrow7 (by simp <;> omega) (fun k e => by cases e; first | exact Nat.le_refl _ | exact Nat.le_succ _))); clear hown7 hgrow7 hat7)))
    all_goals
      have K := Lib.hid X2.out.ka
      have R := Lib.hid X2.out.r
      have F := Lib.hid X2.out.f
      have B := Lib.hid X2.out.b
      have hov := over_any A A7 l (limbs (2 ^ m)) c c7 w7 S3.out S7.out Hk1.out (canon_limbs _) (fun h => by have h2 := limbs_eq_nil.1 h; have := Nat.two_pow_pos m; omega) (by omega)
      rw [val_limbs] at hov
      have Hov := Lib.hid hov
      clear S X0 X2 hov hs1 hle Hpow
      generalize limbs (2 ^ m) = lp at *
      obtain ⟨q0, q1⟩ := K.out
      go_wp2_with fail
      refine Hov.out.mono ?_
      rintro e w8 ⟨A8, c8, A9, c9, rfl, hs8, hs9, hb⟩
      clear q0 q1
      have S8 := Lib.hid hs8
      have V8 := Lib.hid (val_limbs (val l / 2 ^ m))
      replace F : Hid (Fw w8 (w.heap.size + 1)) := Fw.keep F.out R.out hb
      replace R : Hid (Cw w8 (w.heap.size + 1) false none 0 0) := R.out.keep hb
      replace K : Hid (Cw w8 w.heap.size false A l.length c) := K.out.keep hb
      replace B : Hid (Below w.heap.size w w8) := below_mono B.out hb
      have hlq : (limbs (val l / 2 ^ m)).length ≤ 4096 := Nat.le_trans (canon_len_le (canon_limbs _) Hk1.out (by rw [val_limbs]; exact Nat.div_le_self _ _)) m1
      clear hb hs8 hs9 Hov Hk1
      generalize limbs (val l / 2 ^ m) = lq at *
      obtain ⟨q0, q1⟩ := K.out
      go_wp2_with fail
      refine (rmade_any false A8 lq c8 _ S8.out).mono ?_
      rw [V8.out, Hres.out]
      rintro e w12 ⟨A12, c12, rfl, hs12, hb⟩
      have S12 := Lib.hid hs12
      have B2 := Lib.hid (below_mono B.out hb)
      obtain ⟨f0, f1⟩ := Fw.keep F.out R.out hb
      obtain ⟨r0, r1⟩ := Cw.keep R.out hb
      clear hs12 hb q0 q1
      go_wp2
      exact bodyPost_ret (v := .tuple #[.agg #[.bool r.1.1, .slice A12 r.1.2.length c12], .int .i64 r.2]) (by simp [results, Try.results36, go_sem, r0, r1]) rfl (wres_store S12.out ⟨r0, r1⟩ B2.out (by omega) _ _)
  | true =>
    rw [Bool.true_and] at Hres
    cases hrest : decide (0 < val l % 2 ^ m) with
    | false =>
      rw [hrest, if_neg (by simp), Nat.add_zero] at Hres
      have HY : Hid (limbs (val l % 2 ^ m) = []) := limbs_eq_nil.2 (by have := of_decide_eq_false hrest; omega)
      clear hrest
      go_enter Try.func36, Try.ntmps36
      go_wp2_with fail
      refine (rcheck_any true A l c _ ((Hs.out.alloc _).alloc _)).mono ?_
      rintro e w1 ⟨rfl, hb⟩
      have K : Hid (Cw w1 w.heap.size true A l.length c) := ⟨kept_cell hb (by go_simp), kept_cell hb (by go_simp)⟩
      have R : Hid (Cw w1 (w.heap.size + 1) false none 0 0) := ⟨kept_cell hb (by go_simp), kept_cell hb (by go_simp)⟩
      have F : Hid (Fw w1 (w.heap.size + 1)) := ⟨(hb.frozen (by simp)).trans (by go_simp), (hb.frozen (by simp)).trans (by go_simp)⟩
      have B : Hid (Below w.heap.size w w1) := below_mono (blw2 _ _ _) hb
      have S : Hid (Sl w1 A l c) := ((Hs.out.alloc _).alloc _).below hb
      clear hb
      obtain ⟨q0, q1⟩ := K.out
      go_wp2_with fail
      have X0 : Hid (SB w true A l.length c w1) := ⟨K.out, R.out, F.out, B.out⟩
      have hs1 : w.heap.size + 1 < w1.heap.size := X0.out.lt
      have hle : w.heap.size ≤ w1.heap.size := Nat.le_trans (Nat.le_succ_of_le (Nat.le_refl _)) (Nat.le_of_lt hs1)
      clear q0 q1 K R F B
      go_region_held3 (fun w' => w'.cell? ⟨w.heap.size, 0, none⟩ = some (.bool true) ∧ w'.cell? ⟨w.heap.size, 1, none⟩ = some (.slice A l.length c))
        (first | exact X2.out.ka | exact ((X0.out.alloc _).alloc _).drew.ka | exact (X0.out.alloc _).drew.ka | exact X0.out.drew.ka)
        (first
          | ((refine step_app (by rfl) _ _ _ (by rfl) w.heap.size 58 i0 Try.underlying22 hi hz0 hz1 hz2 (.slice (some ⟨w1.heap.size, 0, none⟩) kq kq) (List.replicate kq 0) (by rfl) (((ow_zrow w1 _ _ _ (Nat.le_refl _) hq2).mono hle).alloc _).drew (some ⟨w1.heap.size + 1, 0, none⟩) 1 [2 ^ kr] 1 (by rfl) (by rfl) (Rd.onev' (by simp) Hz.out _).drew (by rw [List.length_replicate]; simp; omega) (by simp <;> omega) ?_; intro A7 c7 w7 hown7 hgrow7 hat7; rw [Hpow.out] at hown7 ⊢; have S7 := Lib.hid (hown7.sl (lim_limbs _) (by omega)); have X2 : Hid (SB w true A l.length c w7) := Lib.hid (SB.grown ((X0.out.alloc _).alloc _).drew hgrow7 (fun k e => by cases e; exact hs1)); have S3 : Hid (Sl w7 A l c) := Lib.hid (S.out.below (grown_below (blw2 w1 _ _).drew hgrow7 (by simp <;> omega) (fun k e => by cases e; first | exact Nat.le_refl _ | exact Nat.le_succ _))); clear hown7 hgrow7 hat7))
          | ((refine step_app (by rfl) _ _ _ (by rfl) w.heap.size 58 i0 Try.underlying22 hi hz0 hz1 hz2 (.slice (some ⟨w1.heap.size + 1, 0, none⟩) kq kq) (List.replicate kq 0) (by rfl) ((ow_zrow' (by simp) hq2).mono (by omega)).drew (some ⟨w1.heap.size, 0, none⟩) 1 [2 ^ kr] 1 (by rfl) (by rfl) ((Rd.onev' rfl Hz.out _).alloc _).drew (by rw [List.length_replicate]; simp; omega) (by simp <;> omega) ?_; intro A7 c7 w7 hown7 hgrow7 hat7; rw [Hpow.out] at hown7 ⊢; have S7 := Lib.hid (hown7.sl (lim_limbs _) (by omega)); have X2 : Hid (SB w true A l.length c w7) := Lib.hid (SB.grown ((X0.out.alloc _).alloc _).drew hgrow7 (fun k e => by cases e; show w.heap.size + 1 < w1.heap.size + 1; omega)); have S3 : Hid (Sl w7 A l c) := Lib.hid (S.out.below (grown_below (blw2 w1 _ _).drew hgrow7 (by simp <;> omega) (fun k e => by cases e; first | exact Nat.le_refl _ | exact Nat.le_succ _))); clear hown7 hgrow7 hat7)))
      all_goals
        have K := Lib.hid X2.out.ka
        have R := Lib.hid X2.out.r
        have F := Lib.hid X2.out.f
        have B := Lib.hid X2.out.b
        have hov := over_any A A7 l (limbs (2 ^ m)) c c7 w7 S3.out S7.out Hk1.out (canon_limbs _) (fun h => by have h2 := limbs_eq_nil.1 h; have := Nat.two_pow_pos m; omega) (by omega)
        rw [val_limbs] at hov
        rw [HY.out] at hov
        clear HY
        have Hov := Lib.hid hov
        clear S X0 X2 hov hs1 hle Hpow
        generalize limbs (2 ^ m) = lp at *
        obtain ⟨q0, q1⟩ := K.out
        go_wp2_with fail
        refine Hov.out.mono ?_
        rintro e w8 ⟨A8, c8, A9, c9, rfl, hs8, hs9, hb⟩
        clear q0 q1
        have S8 := Lib.hid hs8
        have V8 := Lib.hid (val_limbs (val l / 2 ^ m))
        replace F : Hid (Fw w8 (w.heap.size + 1)) := Fw.keep F.out R.out hb
        replace R : Hid (Cw w8 (w.heap.size + 1) false none 0 0) := R.out.keep hb
        replace K : Hid (Cw w8 w.heap.size true A l.length c) := K.out.keep hb
        replace B : Hid (Below w.heap.size w w8) := below_mono B.out hb
        have hlq : (limbs (val l / 2 ^ m)).length ≤ 4096 := Nat.le_trans (canon_len_le (canon_limbs _) Hk1.out (by rw [val_limbs]; exact Nat.div_le_self _ _)) m1
        clear hb hs8 hs9 Hov Hk1
        generalize limbs (val l / 2 ^ m) = lq at *
        obtain ⟨q0, q1⟩ := K.out
        go_wp2_with fail
        refine (rmade_any true A8 lq c8 _ S8.out).mono ?_
        rw [V8.out, Hres.out]
        rintro e w12 ⟨A12, c12, rfl, hs12, hb⟩
        have S12 := Lib.hid hs12
        have B2 := Lib.hid (below_mono B.out hb)
        obtain ⟨f0, f1⟩ := Fw.keep F.out R.out hb
        obtain ⟨r0, r1⟩ := Cw.keep R.out hb
        clear hs12 hb q0 q1
        go_wp2
        exact bodyPost_ret (v := .tuple #[.agg #[.bool r.1.1, .slice A12 r.1.2.length c12], .int .i64 r.2]) (by simp [results, Try.results36, go_sem, r0, r1]) rfl (wres_store S12.out ⟨r0, r1⟩ B2.out (by omega) _ _)
    | true =>
      rw [hrest, if_pos rfl] at Hres
      have HY : Hid (0 < (limbs (val l % 2 ^ m)).length) := limbs_len_pos.2 (of_decide_eq_true hrest)
      clear hrest
      go_enter Try.func36, Try.ntmps36
      go_wp2_with fail
      refine (rcheck_any true A l c _ ((Hs.out.alloc _).alloc _)).mono ?_
      rintro e w1 ⟨rfl, hb⟩
      have K : Hid (Cw w1 w.heap.size true A l.length c) := ⟨kept_cell hb (by go_simp), kept_cell hb (by go_simp)⟩
      have R : Hid (Cw w1 (w.heap.size + 1) false none 0 0) := ⟨kept_cell hb (by go_simp), kept_cell hb (by go_simp)⟩
      have F : Hid (Fw w1 (w.heap.size + 1)) := ⟨(hb.frozen (by simp)).trans (by go_simp), (hb.frozen (by simp)).trans (by go_simp)⟩
      have B : Hid (Below w.heap.size w w1) := below_mono (blw2 _ _ _) hb
      have S : Hid (Sl w1 A l c) := ((Hs.out.alloc _).alloc _).below hb
      clear hb
      obtain ⟨q0, q1⟩ := K.out
      go_wp2_with fail
      have X0 : Hid (SB w true A l.length c w1) := ⟨K.out, R.out, F.out, B.out⟩
      have hs1 : w.heap.size + 1 < w1.heap.size := X0.out.lt
      have hle : w.heap.size ≤ w1.heap.size := Nat.le_trans (Nat.le_succ_of_le (Nat.le_refl _)) (Nat.le_of_lt hs1)
      clear q0 q1 K R F B
      go_region_held3 (fun w' => w'.cell? ⟨w.heap.size, 0, none⟩ = some (.bool true) ∧ w'.cell? ⟨w.heap.size, 1, none⟩ = some (.slice A l.length c))
        (first | exact X2.out.ka | exact ((X0.out.alloc _).alloc _).drew.ka | exact (X0.out.alloc _).drew.ka | exact X0.out.drew.ka)
        (first
          | ((refine step_app (by rfl) _ _ _ (by rfl) w.heap.size 58 i0 Try.underlying22 hi hz0 hz1 hz2 (.slice (some ⟨w1.heap.size, 0, none⟩) kq kq) (List.replicate kq 0) (by rfl) (((ow_zrow w1 _ _ _ (Nat.le_refl _) hq2).mono hle).alloc _).drew (some ⟨w1.heap.size + 1, 0, none⟩) 1 [2 ^ kr] 1 (by rfl) (by rfl) (Rd.onev' (by simp) Hz.out _).drew (by rw [List.length_replicate]; simp; omega) (by simp <;> omega) ?_; intro A7 c7 w7 hown7 hgrow7 hat7; rw [Hpow.out] at hown7 ⊢; have S7 := Lib.hid (hown7.sl (lim_limbs _) (by omega)); have X2 : Hid (SB w true A l.length c w7) := Lib.hid (SB.grown ((X0.out.alloc _).alloc _).drew hgrow7 (fun k e => by cases e; exact hs1)); have S3 : Hid (Sl w7 A l c) := Lib.hid (S.out.below (grown_below (blw2 w1 _ _).drew hgrow7 (by simp <;> omega) (fun k e => by cases e; first | exact Nat.le_refl _ | exact Nat.le_succ _))); clear hown7 hgrow7 hat7))
          | ((refine step_app (by rfl) _ _ _ (by rfl) w.heap.size 58 i0 Try.underlying22 hi hz0 hz1 hz2 (.slice (some ⟨w1.heap.size + 1, 0, none⟩) kq kq) (List.replicate kq 0) (by rfl) ((ow_zrow' (by simp) hq2).mono (by omega)).drew (some ⟨w1.heap.size, 0, none⟩) 1 [2 ^ kr] 1 (by rfl) (by rfl) ((Rd.onev' rfl Hz.out _).alloc _).drew (by rw [List.length_replicate]; simp; omega) (by simp <;> omega) ?_; intro A7 c7 w7 hown7 hgrow7 hat7; rw [Hpow.out] at hown7 ⊢; have S7 := Lib.hid (hown7.sl (lim_limbs _) (by omega)); have X2 : Hid (SB w true A l.length c w7) := Lib.hid (SB.grown ((X0.out.alloc _).alloc _).drew hgrow7 (fun k e => by cases e; show w.heap.size + 1 < w1.heap.size + 1; omega)); have S3 : Hid (Sl w7 A l c) := Lib.hid (S.out.below (grown_below (blw2 w1 _ _).drew hgrow7 (by simp <;> omega) (fun k e => by cases e; first | exact Nat.le_refl _ | exact Nat.le_succ _))); clear hown7 hgrow7 hat7)))
      all_goals
        have K := Lib.hid X2.out.ka
        have R := Lib.hid X2.out.r
        have F := Lib.hid X2.out.f
        have B := Lib.hid X2.out.b
        have hov := over_any A A7 l (limbs (2 ^ m)) c c7 w7 S3.out S7.out Hk1.out (canon_limbs _) (fun h => by have h2 := limbs_eq_nil.1 h; have := Nat.two_pow_pos m; omega) (by omega)
        rw [val_limbs] at hov
        have Hov := Lib.hid hov
        clear S X0 X2 hov hs1 hle Hpow
        generalize limbs (2 ^ m) = lp at *
        obtain ⟨q0, q1⟩ := K.out
        go_wp2_with fail
        refine Hov.out.mono ?_
        rintro e w8 ⟨A8, c8, A9, c9, rfl, hs8, hs9, hb⟩
        clear q0 q1
        have S8 := Lib.hid hs8
        have V8 := Lib.hid (val_limbs (val l / 2 ^ m))
        replace F : Hid (Fw w8 (w.heap.size + 1)) := Fw.keep F.out R.out hb
        replace R : Hid (Cw w8 (w.heap.size + 1) false none 0 0) := R.out.keep hb
        replace K : Hid (Cw w8 w.heap.size true A l.length c) := K.out.keep hb
        replace B : Hid (Below w.heap.size w w8) := below_mono B.out hb
        have hlq : (limbs (val l / 2 ^ m)).length ≤ 4096 := Nat.le_trans (canon_len_le (canon_limbs _) Hk1.out (by rw [val_limbs]; exact Nat.div_le_self _ _)) m1
        have hly := HY.out
        clear HY
        generalize limbs (val l % 2 ^ m) = ly at *
        clear hb hs8 hs9 Hov Hk1
        generalize limbs (val l / 2 ^ m) = lq at *
        obtain ⟨q0, q1⟩ := K.out
        go_wp2_with fail
        refine (rplus_any A8 (some ⟨w8.heap.size, 0, none⟩) lq [1] c8 1 _ (S8.out.alloc _) ⟨Rd.one _ _ _, lim_one (by omega), Nat.le_refl _, by simp⟩ (by omega) (by simp)).mono ?_
        rintro e w10 ⟨A10, c10, x10, rfl, hs10, hv10, hn10, hb⟩
        clear q0 q1
        have S10 := Lib.hid hs10
        have V10 : Hid (val x10 = val l / 2 ^ m + 1) := by unfold Hid; rw [hv10, V8.out]; simp [val]
        replace F : Hid (Fw w10 (w.heap.size + 1)) := Fw.keep (Fw.alloc F.out R.out _) (Cw.keep R.out (blw1 _ _)) hb
        replace R : Hid (Cw w10 (w.heap.size + 1) false none 0 0) := Cw.keep (Cw.keep R.out (blw1 _ _)) hb
        replace K : Hid (Cw w10 w.heap.size true A l.length c) := Cw.keep (Cw.keep K.out (blw1 _ _)) hb
        replace B : Hid (Below w.heap.size w w10) := below_mono (below_mono B.out (blw1 _ _)) hb
        clear hb hs10 hv10 hn10
        go_wp2_with fail
        refine (rtrim_any A10 x10 c10 _ S10.out).mono ?_
        rintro e w11 ⟨A11, c11, rfl, hs11, hb⟩
        have S11 := Lib.hid hs11
        have V11 : Hid (val (limbs (val x10)) = val l / 2 ^ m + 1) := by unfold Hid; rw [val_limbs, V10.out]
        replace F : Hid (Fw w11 (w.heap.size + 1)) := Fw.keep F.out R.out hb
        replace R : Hid (Cw w11 (w.heap.size + 1) false none 0 0) := Cw.keep R.out hb
        replace K : Hid (Cw w11 w.heap.size true A l.length c) := Cw.keep K.out hb
        replace B : Hid (Below w.heap.size w w11) := below_mono B.out hb
        clear hb hs11
        obtain ⟨q0, q1⟩ := K.out
        go_wp2_with fail
        refine (rmade_any true A11 (limbs (val x10)) c11 _ S11.out).mono ?_
        rw [V11.out, Hres.out]
        rintro e w12 ⟨A12, c12, rfl, hs12, hb⟩
        have S12 := Lib.hid hs12
        have B2 := Lib.hid (below_mono B.out hb)
        obtain ⟨f0, f1⟩ := Fw.keep F.out R.out hb
        obtain ⟨r0, r1⟩ := Cw.keep R.out hb
        clear hs12 hb q0 q1
        go_wp2
        exact bodyPost_ret (v := .tuple #[.agg #[.bool r.1.1, .slice A12 r.1.2.length c12], .int .i64 r.2]) (by simp [results, Try.results36, go_sem, r0, r1]) rfl (wres_store S12.out ⟨r0, r1⟩ B2.out (by omega) _ _)

set_option maxRecDepth 100000 in
set_option maxHeartbeats 2000000 in
theorem rshift_any (n : Bool) (A : Option Addr) (l : List Nat) (c : Nat) (k : Int) (w : World) (hs : Sl w A l c) :
    Calls Try.prog 36 #[.agg #[.bool n, .slice A l.length c], .int .i64 k] w (WRes (shS n l k) w) := by
  cases hbad : badL n l with
  | false =>
    by_cases hk : k < -131072 ∨ 131072 < k
    · exact rshift_arg n A l c k w hs hbad hk
    · by_cases h0 : 0 ≤ k
      · obtain ⟨kn, rfl⟩ := Int.eq_ofNat_of_zero_le h0
        exact rshift_up n A l c kn w hs hbad (by omega)
      · obtain ⟨m, hm⟩ := Int.eq_ofNat_of_zero_le (show 0 ≤ -k by omega)
        obtain rfl : k = -(m : Int) := by omega
        exact rshift_down n A l c m w hs hbad (by omega) (by omega)
  | true => exact rshift_bad n A l c k w hs hbad
end Go.Proofs.Ytejapkdhbpngbaa

/- Walks: From. -/
import Derived.Test.YthlfidbhldbedaaW2
namespace Go.Proofs.Ythlfidbhldbedaa
open Go.RowKit
attribute [local go_sem ↓] Go.wp_at_zero Go.wp_at_succ
theorem from_out (n : Int) (h1 : -9223372036854775808 ≤ n) (h2 : n ≤ 9223372036854775807) : outN (decide (n < 0)) (val [n.natAbs % 4294967296, n.natAbs / 4294967296]) = (wOf n, 0) := by
  have e : val [n.natAbs % 4294967296, n.natAbs / 4294967296] = n.natAbs := by simp only [val]; omega
  rw [e]
  exact outZ_fit (Nat.le_trans (limbs_len_le.2 (show n.natAbs < 4294967296 ^ 2 by omega)) (by omega))

set_option maxHeartbeats 400000 in
theorem from_any (n : Int) (w : World) (h1 : -9223372036854775808 ≤ n) (h2 : n ≤ 9223372036854775807) :
    Calls Try.prog 26 #[.int .i64 n] w (WRes1 (wOf n) w) := by
  have hout : outN (decide (n < 0)) (val [n.natAbs % 4294967296, n.natAbs / 4294967296]) = (wOf n, 0) := from_out n h1 h2
  have Hout := Lib.hid hout
  clear hout
  by_cases h0 : n < 0
  · obtain ⟨m, rfl⟩ : ∃ m : Nat, n = -(m : Int) := ⟨n.natAbs, by omega⟩
    have e1 : IntKind.u64.wrap (-IntKind.u64.wrap (-(m : Int))) % 4294967296 = ((m % 4294967296 : Nat) : Int) := by rw [IntKind.wrap_u64, IntKind.wrap_u64]; omega
    have e2 : IntKind.u64.wrap (-IntKind.u64.wrap (-(m : Int))) / 4294967296 % 4294967296 = ((m / 4294967296 : Nat) : Int) := by rw [IntKind.wrap_u64, IntKind.wrap_u64]; omega
    have E1 := Lib.hid e1
    have E2 := Lib.hid e2
    clear e1 e2
    rw [Int.natAbs_neg, Int.natAbs_natCast, show decide (-(m : Int) < 0) = true from decide_eq_true h0] at Hout
    have Hl : Hid (Lim [m % 4294967296, m / 4294967296]) := lim_cons.2 ⟨by omega, lim_one (by omega)⟩
    go_enter Try.func26, Try.ntmps26
    go_wp2_with fail
    rw [E1.out, E2.out]
    refine (made_any true _ [m % 4294967296, m / 4294967296] 2 _ ?hs).mono ?_
    case hs => exact ⟨Rd.two' (by simp) _ _ _, Hl.out, by simp, by simp⟩
    rw [Hout.out]
    rintro e w1 ⟨A2, c2, rfl, hs3, hb⟩
    obtain ⟨r0, r1⟩ : Cw w1 w.heap.size false none 0 0 := ⟨kept_cell hb (by go_simp), kept_cell hb (by go_simp)⟩
    obtain ⟨f0, f1⟩ : Fw w1 w.heap.size := ⟨(hb.frozen (by simp <;> omega)).trans (by go_simp), (hb.frozen (by simp <;> omega)).trans (by go_simp)⟩
    have hz : w.heap.size < w1.heap.size := by have := hb.size; simp at this; omega
    have Hb := Lib.hid (below_mono (blw2 _ _ _) hb)
    clear hb
    go_wp2
    exact bodyPost_ret (v := .agg #[.bool (wOf (-(m : Int))).1, .slice A2 (wOf (-(m : Int))).2.length c2]) (by simp [results, Try.results26, go_sem, r0, r1, hz]) rfl (wres1_store hs3 ⟨r0, r1⟩ Hb.out (Nat.le_refl _) _ _ _)
  · obtain ⟨m, rfl⟩ : ∃ m : Nat, n = (m : Int) := ⟨n.natAbs, by omega⟩
    have e1 : (m : Int) % 4294967296 = ((m % 4294967296 : Nat) : Int) := by omega
    have e2 : (m : Int) / 4294967296 = ((m / 4294967296 : Nat) : Int) := by omega
    have E1 := Lib.hid e1
    have E2 := Lib.hid e2
    clear e1 e2
    rw [Int.natAbs_natCast, show decide ((m : Int) < 0) = false from decide_eq_false h0] at Hout
    have Hl : Hid (Lim [m % 4294967296, m / 4294967296]) := lim_cons.2 ⟨by omega, lim_one (by omega)⟩
    go_enter Try.func26, Try.ntmps26
    go_wp2_with fail
    rw [E1.out, E2.out]
    refine (made_any false _ [m % 4294967296, m / 4294967296] 2 _ ?hs).mono ?_
    case hs => exact ⟨Rd.two' (by simp) _ _ _, Hl.out, by simp, by simp⟩
    rw [Hout.out]
    rintro e w1 ⟨A2, c2, rfl, hs3, hb⟩
    obtain ⟨r0, r1⟩ : Cw w1 w.heap.size false none 0 0 := ⟨kept_cell hb (by go_simp), kept_cell hb (by go_simp)⟩
    obtain ⟨f0, f1⟩ : Fw w1 w.heap.size := ⟨(hb.frozen (by simp <;> omega)).trans (by go_simp), (hb.frozen (by simp <;> omega)).trans (by go_simp)⟩
    have hz : w.heap.size < w1.heap.size := by have := hb.size; simp at this; omega
    have Hb := Lib.hid (below_mono (blw2 _ _ _) hb)
    clear hb
    go_wp2
    exact bodyPost_ret (v := .agg #[.bool (wOf ((m : Int))).1, .slice A2 (wOf ((m : Int))).2.length c2]) (by simp [results, Try.results26, go_sem, r0, r1, hz]) rfl (wres1_store hs3 ⟨r0, r1⟩ Hb.out (Nat.le_refl _) _ _ _)

set_option maxHeartbeats 400000 in
theorem rfrom_any (n : Int) (w : World) (h1 : -9223372036854775808 ≤ n) (h2 : n ≤ 9223372036854775807) :
    Calls Try.prog 27 #[.int .i64 n] w (WRes1 (wOf n) w) := by
  have hout : outN (decide (n < 0)) (val [n.natAbs % 4294967296, n.natAbs / 4294967296]) = (wOf n, 0) := from_out n h1 h2
  have Hout := Lib.hid hout
  clear hout
  by_cases h0 : n < 0
  · obtain ⟨m, rfl⟩ : ∃ m : Nat, n = -(m : Int) := ⟨n.natAbs, by omega⟩
    have e1 : IntKind.u64.wrap (-IntKind.u64.wrap (-(m : Int))) % 4294967296 = ((m % 4294967296 : Nat) : Int) := by rw [IntKind.wrap_u64, IntKind.wrap_u64]; omega
    have e2 : IntKind.u64.wrap (-IntKind.u64.wrap (-(m : Int))) / 4294967296 % 4294967296 = ((m / 4294967296 : Nat) : Int) := by rw [IntKind.wrap_u64, IntKind.wrap_u64]; omega
    have E1 := Lib.hid e1
    have E2 := Lib.hid e2
    clear e1 e2
    rw [Int.natAbs_neg, Int.natAbs_natCast, show decide (-(m : Int) < 0) = true from decide_eq_true h0] at Hout
    have Hl : Hid (Lim [m % 4294967296, m / 4294967296]) := lim_cons.2 ⟨by omega, lim_one (by omega)⟩
    go_enter Try.func27, Try.ntmps27
    go_wp2_with fail
    rw [E1.out, E2.out]
    refine (rmade_any true _ [m % 4294967296, m / 4294967296] 2 _ ?hs).mono ?_
    case hs => exact ⟨Rd.two' (by simp) _ _ _, Hl.out, by simp, by simp⟩
    rw [Hout.out]
    rintro e w1 ⟨A2, c2, rfl, hs3, hb⟩
    obtain ⟨r0, r1⟩ : Cw w1 w.heap.size false none 0 0 := ⟨kept_cell hb (by go_simp), kept_cell hb (by go_simp)⟩
    obtain ⟨f0, f1⟩ : Fw w1 w.heap.size := ⟨(hb.frozen (by simp <;> omega)).trans (by go_simp), (hb.frozen (by simp <;> omega)).trans (by go_simp)⟩
    have hz : w.heap.size < w1.heap.size := by have := hb.size; simp at this; omega
    have Hb := Lib.hid (below_mono (blw2 _ _ _) hb)
    clear hb
    go_wp2
    exact bodyPost_ret (v := .agg #[.bool (wOf (-(m : Int))).1, .slice A2 (wOf (-(m : Int))).2.length c2]) (by simp [results, Try.results27, go_sem, r0, r1, hz]) rfl (wres1_store hs3 ⟨r0, r1⟩ Hb.out (Nat.le_refl _) _ _ _)
  · obtain ⟨m, rfl⟩ : ∃ m : Nat, n = (m : Int) := ⟨n.natAbs, by omega⟩
    have e1 : (m : Int) % 4294967296 = ((m % 4294967296 : Nat) : Int) := by omega
    have e2 : (m : Int) / 4294967296 = ((m / 4294967296 : Nat) : Int) := by omega
    have E1 := Lib.hid e1
    have E2 := Lib.hid e2
    clear e1 e2
    rw [Int.natAbs_natCast, show decide ((m : Int) < 0) = false from decide_eq_false h0] at Hout
    have Hl : Hid (Lim [m % 4294967296, m / 4294967296]) := lim_cons.2 ⟨by omega, lim_one (by omega)⟩
    go_enter Try.func27, Try.ntmps27
    go_wp2_with fail
    rw [E1.out, E2.out]
    refine (rmade_any false _ [m % 4294967296, m / 4294967296] 2 _ ?hs).mono ?_
    case hs => exact ⟨Rd.two' (by simp) _ _ _, Hl.out, by simp, by simp⟩
    rw [Hout.out]
    rintro e w1 ⟨A2, c2, rfl, hs3, hb⟩
    obtain ⟨r0, r1⟩ : Cw w1 w.heap.size false none 0 0 := ⟨kept_cell hb (by go_simp), kept_cell hb (by go_simp)⟩
    obtain ⟨f0, f1⟩ : Fw w1 w.heap.size := ⟨(hb.frozen (by simp <;> omega)).trans (by go_simp), (hb.frozen (by simp <;> omega)).trans (by go_simp)⟩
    have hz : w.heap.size < w1.heap.size := by have := hb.size; simp at this; omega
    have Hb := Lib.hid (below_mono (blw2 _ _ _) hb)
    clear hb
    go_wp2
    exact bodyPost_ret (v := .agg #[.bool (wOf ((m : Int))).1, .slice A2 (wOf ((m : Int))).2.length c2]) (by simp [results, Try.results27, go_sem, r0, r1, hz]) rfl (wres1_store hs3 ⟨r0, r1⟩ Hb.out (Nat.le_refl _) _ _ _)

end Go.Proofs.Ythlfidbhldbedaa

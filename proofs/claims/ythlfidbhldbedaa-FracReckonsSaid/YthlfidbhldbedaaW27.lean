/- Walks: slices.IndexFunc and ContainsFunc at 'a limb is greater than 0'. -/
import Derived.Test.YthlfidbhldbedaaW1
import Derived.Test.YthlfidbhldbedaaMem
import Derived.Test.YthlfidbhldbedaaMath
namespace Go.Proofs.Ythlfidbhldbedaa
open Go.RowKit
theorem pv_zero_succ {l : List Nat} {k : Nat} (h : pv l k = 0) (h2 : l[k]?.getD 0 = 0) : pv l (k + 1) = 0 := by rw [pv_succ, h, h2]; simp

theorem val_pos_of {l : List Nat} {k : Nat} (h2 : 0 < l[k]?.getD 0) : 0 < val l := by
  rw [val_split l (k + 1), pv_succ]
  have : 0 < l[k]?.getD 0 * 4294967296 ^ k := Nat.mul_pos h2 (Nat.pow_pos (by omega))
  omega

set_option maxHeartbeats 400000 in
theorem gt0_any (x : Nat) (w : World) : Calls Try.prog 100 #[.int .u32 x] w fun e w' => e = .returned (.bool (decide (0 < x))) ∧ w = w' := by
  by_cases h : 0 < x
  · go_enter Try.func100, Try.ntmps100
    go_wp2
    go_ret
    exact ⟨by simp [h], rfl⟩
  · go_enter Try.func100, Try.ntmps100
    go_wp2
    go_ret
    exact ⟨by simp [h], rfl⟩

set_option maxRecDepth 100000 in
set_option maxHeartbeats 1000000 in
theorem indexFunc_any (A : Option Addr) (l : List Nat) (c : Nat) (w : World) (hs : Sl w A l c) :
    Calls Try.prog 102 #[.slice A l.length c, .func (.func 100) #[] #[]] w fun e w' => ∃ z : Int, e = .returned (.int .i64 z) ∧ (0 ≤ z ↔ 0 < val l) ∧ w = w' := by
  have Hs := Lib.hid hs
  have hlen := hs.len
  clear hs
  go_enter Try.func102, Try.ntmps102
  go_wp2
  go_loopw [5, 8] (fun _ i wr => ∃ k : Nat, k ≤ l.length ∧ i = .int .i64 k ∧ pv l k = 0 ∧ wr = w) (fun _ i _ => l.length - (intOf i).toNat)
  case atStart => exact ⟨0, Nat.zero_le _, rfl, pv_zero l, rfl⟩
  case round =>
    obtain ⟨k, hk, rfl, hpv, rfl⟩ := hrel
    have Hpv := Lib.hid hpv
    clear hpv
    by_cases hlt : k < l.length
    · obtain ⟨b, o, rfl, hx⟩ := Hs.out.rd.at_ (k := k) hlt
      have Hgx : Hid (l[k]?.getD 0 = l[k]?.getD 0) := rfl
      generalize hgx : l[k]?.getD 0 = x at *
      have Hx := Lib.hid hgx
      clear hgx Hgx
      by_cases h0 : 0 < x
      · have Hv : Hid (0 < val l) := val_pos_of (k := k) (by rw [Hx.out]; exact h0)
        go_wp2_with fail
        refine (gt0_any x _).mono ?_
        rintro e w1 ⟨rfl, rfl⟩
        rw [decide_eq_true h0]
        go_wp2
        go_ret
        exact ⟨_, rfl, ⟨fun _ => Hv.out, fun _ => by omega⟩, rfl⟩
      · have Hz : Hid (pv l (k + 1) = 0) := pv_zero_succ Hpv.out (by rw [Hx.out]; omega)
        go_wp2_with fail
        refine (gt0_any x _).mono ?_
        rintro e w1 ⟨rfl, rfl⟩
        rw [decide_eq_false h0]
        go_wp2
        go_roundw
        case rel => exact ⟨k + 1, by omega, by go_num, Hz.out, by simp⟩
        case measure => simp [intOf]; omega
    · obtain rfl : k = l.length := by omega
      have Hv : Hid (val l = 0) := by have h := Hpv.out; rwa [pv_all (Nat.le_refl _)] at h
      go_wp2
      go_ret
      exact ⟨_, rfl, ⟨fun h => by omega, fun h => by have := Hv.out; omega⟩, rfl⟩

set_option maxHeartbeats 400000 in
theorem containsFunc_any (A : Option Addr) (l : List Nat) (c : Nat) (w : World) (hs : Sl w A l c) :
    Calls Try.prog 99 #[.slice A l.length c, .func (.func 100) #[] #[]] w fun e w' => e = .returned (.bool (decide (0 < val l))) ∧ w = w' := by
  have Hs := Lib.hid hs
  clear hs
  go_enter Try.func99, Try.ntmps99
  go_wp2_with fail
  refine (indexFunc_any _ _ _ _ Hs.out).mono ?_
  rintro e w1 ⟨z, rfl, hz, rfl⟩
  have Hz : Hid (decide (0 ≤ z) = decide (0 < val l)) := decide_eq_decide.2 hz
  clear hz
  go_wp2
  go_ret
  exact ⟨by rw [← Hz.out]; rfl, rfl⟩

end Go.Proofs.Ythlfidbhldbedaa

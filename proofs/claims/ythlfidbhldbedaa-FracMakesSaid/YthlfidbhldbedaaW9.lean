/- Walks: Bits. -/
import Derived.Test.YthlfidbhldbedaaW2
import Derived.Test.YthlfidbhldbedaaShelf
namespace Go.Proofs.Ythlfidbhldbedaa
open Go.RowKit
theorem bitLenN_zero : bitLenN 0 = 0 := rfl

theorem bitLenN_pos {n : Nat} (h : 0 < n) : bitLenN n = bitLenN (n / 2) + 1 := by
  unfold bitLenN
  rw [if_neg (by omega)]
  by_cases h1 : n / 2 = 0
  · have : n = 1 := by omega
    subst this; rfl
  · rw [if_neg h1]
    rw [Nat.log2_def n, if_pos (by omega)]

theorem bitLen_aux : ∀ (f x : Nat), x < 2 ^ f → Lib.bitLenAux f x = bitLenN x
  | 0, x, h => by
    obtain rfl : x = 0 := by omega
    rfl
  | f + 1, x, h => by
    rw [Lib.bitLenAux]
    by_cases h0 : x = 0
    · subst h0; rfl
    · have e := bitLenN_pos (n := x) (by omega)
      rw [if_neg h0, bitLen_aux f (x / 2) (by rw [Nat.pow_succ] at h; omega), e]; omega

theorem bitLen_eq {x : Nat} (h : x < 4294967296) : Lib.bitLen x = bitLenN x := bitLen_aux 64 x (by omega)

theorem bitLenN_shift (x r : Nat) (hx : 0 < x) : ∀ (k : Nat), r < 2 ^ k → bitLenN (r + x * 2 ^ k) = k + bitLenN x
  | 0, h => by
    obtain rfl : r = 0 := by omega
    simp
  | k + 1, h => by
    have hp : 0 < r + x * 2 ^ (k + 1) := by have := Nat.mul_pos hx (Nat.two_pow_pos (k + 1)); omega
    have e : (r + x * 2 ^ (k + 1)) / 2 = r / 2 + x * 2 ^ k := by rw [Nat.pow_succ, ← Nat.mul_assoc]; omega
    rw [bitLenN_pos hp, e, bitLenN_shift (x) (r / 2) hx k (by rw [Nat.pow_succ] at h; omega)]; omega

theorem pow32 (k : Nat) : 4294967296 ^ k = 2 ^ (32 * k) := by rw [Nat.pow_mul]

theorem bitLen_top {l : List Nat} (h : Canon l) {m : Nat} (hm : l.length = m + 1) : bitLenN (val l) = 32 * m + bitLenN (l[m]?.getD 0) := by
  have h1 : pv l l.length = val l := pv_all (Nat.le_refl _)
  rw [hm, pv_succ] at h1
  have h2 := h.2 (by omega)
  rw [hm, Nat.add_sub_cancel] at h2
  rw [← h1, pow32]
  exact bitLenN_shift _ _ (by omega) _ (by rw [← pow32]; exact pv_lt h.1 m)

theorem bitLenN_le {x k : Nat} (h : x < 2 ^ k) : bitLenN x ≤ k := by
  unfold bitLenN
  split
  · omega
  · next h0 => have := (Nat.log2_lt h0).2 h; omega

set_option maxHeartbeats 1000000 in
theorem wcheck_any (neg : Bool) (A : Option Addr) (l : List Nat) (c : Nat) (w : World) (hs : Sl w A l c) :
    Calls Try.prog 30 #[.agg #[.bool neg, .slice A l.length c]] w fun e w' => e = .returned (.int .i64 (chk neg l)) ∧ Below w.heap.size w w' := by
  have Hs := Lib.hid hs
  clear hs
  go_enter Try.func30, Try.ntmps30
  go_wp2_with fail
  refine (check_any _ [⟨neg, A, l, c⟩] (by simp) _ ?hc).mono ?_
  case hc => exact Wcs.one (Hs.out.alloc _) (by simp)
  rintro e w1 ⟨rfl, hb⟩
  rw [chkW_one]
  have Hb := Lib.hid (below_mono (blw2 _ _ _) hb)
  clear hb
  go_wp2
  go_ret
  exact ⟨rfl, Hb.out⟩

end Go.Proofs.Ythlfidbhldbedaa

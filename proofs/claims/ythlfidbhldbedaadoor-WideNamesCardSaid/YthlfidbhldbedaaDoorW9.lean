/- Walks: Bits. -/
import Derived.Test.YthlfidbhldbedaaDoorW2
import Derived.Test.YthlfidbhldbedaaDoorShelf
namespace Go.Proofs.YthlfidbhldbedaaDoor
open Go.RowKit
theorem bitLenN_zero : bitLenN 0 = 0 := rfl

theorem bitLenN_pos {n : Nat} (h : 0 < n) : bitLenN n = bitLenN (n / 2) + 1 := by
  unfold bitLenN
  rw [if_neg (by omega)]
  by_cases h1 : n / 2 = 0
  · have : n = 1 := by omega
    subst this; rfl
  · rw [if_neg h1]
    rw [Nat.log2_def n, if_pos (by omega)]

theorem bitLen_aux : ∀ (f x : Nat), x < 2 ^ f → Lib.bitLenAux f x = bitLenN x
  | 0, x, h => by
    obtain rfl : x = 0 := by omega
    rfl
  | f + 1, x, h => by
    rw [Lib.bitLenAux]
    by_cases h0 : x = 0
    · subst h0; rfl
    · have e := bitLenN_pos (n := x) (by omega)
      rw [if_neg h0, bitLen_aux f (x / 2) (by rw [Nat.pow_succ] at h; omega), e]; omega

theorem bitLen_eq {x : Nat} (h : x < 4294967296) : Lib.bitLen x = bitLenN x := bitLen_aux 64 x (by omega)

theorem bitLenN_shift (x r : Nat) (hx : 0 < x) : ∀ (k : Nat), r < 2 ^ k → bitLenN (r + x * 2 ^ k) = k + bitLenN x
  | 0, h => by
    obtain rfl : r = 0 := by omega
    simp
  | k + 1, h => by
    have hp : 0 < r + x * 2 ^ (k + 1) := by have := Nat.mul_pos hx (Nat.two_pow_pos (k + 1)); omega
    have e : (r + x * 2 ^ (k + 1)) / 2 = r / 2 + x * 2 ^ k := by rw [Nat.pow_succ, ← Nat.mul_assoc]; omega
    rw [bitLenN_pos hp, e, bitLenN_shift (x) (r / 2) hx k (by rw [Nat.pow_succ] at h; omega)]; omega

theorem pow32 (k : Nat) : 4294967296 ^ k = 2 ^ (32 * k) := by rw [Nat.pow_mul]

theorem bitLen_top {l : List Nat} (h : Canon l) {m : Nat} (hm : l.length = m + 1) : bitLenN (val l) = 32 * m + bitLenN (l[m]?.getD 0) := by
  have h1 : pv l l.length = val l := pv_all (Nat.le_refl _)
  rw [hm, pv_succ] at h1
  have h2 := h.2 (by omega)
  rw [hm, Nat.add_sub_cancel] at h2
  rw [← h1, pow32]
  exact bitLenN_shift _ _ (by omega) _ (by rw [← pow32]; exact pv_lt h.1 m)

theorem bitLenN_le {x k : Nat} (h : x < 2 ^ k) : bitLenN x ≤ k := by
  unfold bitLenN
  split
  · omega
  · next h0 => have := (Nat.log2_lt h0).2 h; omega

set_option maxHeartbeats 1000000 in
theorem bits_any (neg : Bool) (A : Option Addr) (l : List Nat) (c : Nat) (w : World) (hs : Sl w A l c) :
    Calls Tryd.prog 29 #[.agg #[.bool neg, .slice A l.length c]] w fun e w' => e = .returned (.tuple #[.int .i64 (bitsS neg l).1, .int .i64 (bitsS neg l).2]) ∧ Below w.heap.size w w' := by
  have Hlim := Lib.hid hs.lim
  have Hs := Lib.hid hs
  clear hs
  cases hbad : badL neg l
  · have hc := chk_good hbad
    have Hgood := Lib.hid (good_canon Hlim.out hbad)
    have hlen : l.length ≤ 4096 := Hgood.out.2.1
    have hr : bitsS neg l = (((bitLenN (val l) : Nat) : Int), 0) := by rw [bitsS, if_neg (by simp [hbad])]
    rw [hr]
    clear hr hbad
    generalize hz : ((bitLenN (val l) : Nat) : Int) = z
    have Hz := Lib.hid hz
    clear hz
    by_cases h0 : 0 < l.length
    · have hl0 : ((l.length : Int) == 0) = false := by rw [beq_eq_false_iff_ne]; omega
      have hx2 := getD_lim Hlim.out (l.length - 1)
      have hzz : z = 32 * ((l.length : Int) - 1) + ((bitLenN (l[l.length - 1]?.getD 0) : Nat) : Int) := by
        have h := bitLen_top Hgood.out.1 (m := l.length - 1) (by omega)
        rw [← Hz.out, h]; omega
      have Hzz := Lib.hid hzz
      clear hzz
      have HE : Hid (Lib.bitLen (((l[l.length - 1]?.getD 0 : Nat) : Int)).toNat = bitLenN (l[l.length - 1]?.getD 0)) := by
        unfold Hid; rw [Int.toNat_natCast]; exact bitLen_eq hx2
      have hbl := bitLenN_le (k := 32) (show l[l.length - 1]?.getD 0 < 2 ^ 32 by omega)
      go_enter Tryd.func29, Tryd.ntmps29
      go_wp2_with fail
      refine (check_any _ [⟨neg, A, l, c⟩] (by simp) _ ?hc).mono ?_
      case hc => exact Wcs.one (Hs.out.alloc _) (by simp)
      rintro e w1 ⟨rfl, hb⟩
      rw [chkW_one]
      have q0 : w1.cell? ⟨w.heap.size, 0, none⟩ = some (.bool neg) := kept_cell hb (by go_simp)
      have q1 : w1.cell? ⟨w.heap.size, 1, none⟩ = some (.slice A l.length c) := kept_cell hb (by go_simp)
      obtain ⟨b, o, rfl, hx⟩ := (((Hs.out.alloc _).alloc _).below hb).rd.at_ (k := l.length - 1) (by omega)
      have Hb := Lib.hid (below_mono (blw2 _ _ _) hb)
      clear hb
      go_wp2_with fail
      refine (Tryd.bits_Len32 _ _ (by omega) (by omega)).mono ?_
      rintro e w2 ⟨rfl, rfl⟩
      rw [HE.out]
      generalize bitLenN (l[l.length - 1]?.getD 0) = y at *
      go_wp2
      go_ret2
      exact ⟨by rw [Hzz.out]; rfl, Hb.out⟩
    · obtain rfl : l = [] := List.eq_nil_of_length_eq_zero (by omega)
      have hz0 : z = 0 := Hz.out.symm
      subst hz0
      clear Hz
      go_enter Tryd.func29, Tryd.ntmps29
      go_wp2_with fail
      refine (check_any _ [⟨neg, A, [], c⟩] (by simp) _ ?hc).mono ?_
      case hc => exact Wcs.one (Hs.out.alloc _) (by simp)
      rintro e w1 ⟨rfl, hb⟩
      rw [chkW_one]
      have q0 : w1.cell? ⟨w.heap.size, 0, none⟩ = some (.bool neg) := kept_cell hb (by go_simp)
      have q1 : w1.cell? ⟨w.heap.size, 1, none⟩ = some (.slice A 0 c) := kept_cell hb (by go_simp)
      have Hb := Lib.hid (below_mono (blw2 _ _ _) hb)
      clear hb
      go_wp2
      go_ret2
      exact ⟨rfl, Hb.out⟩
  · have hr : bitsS neg l = (0, 8) := by rw [bitsS, if_pos hbad]
    have hc := chk_bad hbad
    rw [hr]
    clear hr hbad
    go_enter Tryd.func29, Tryd.ntmps29
    go_wp2_with fail
    refine (check_any _ [⟨neg, A, l, c⟩] (by simp) _ ?hc).mono ?_
    case hc => exact Wcs.one (Hs.out.alloc _) (by simp)
    rintro e w1 ⟨rfl, hb⟩
    rw [chkW_one]
    have q0 : w1.cell? ⟨w.heap.size, 0, none⟩ = some (.bool neg) := kept_cell hb (by go_simp)
    have q1 : w1.cell? ⟨w.heap.size, 1, none⟩ = some (.slice A l.length c) := kept_cell hb (by go_simp)
    have Hb := Lib.hid (below_mono (blw2 _ _ _) hb)
    clear hb
    go_wp2
    go_ret2
    exact ⟨rfl, Hb.out⟩

set_option maxHeartbeats 1000000 in
theorem wcheck_any (neg : Bool) (A : Option Addr) (l : List Nat) (c : Nat) (w : World) (hs : Sl w A l c) :
    Calls Tryd.prog 4 #[.agg #[.bool neg, .slice A l.length c]] w fun e w' => e = .returned (.int .i64 (chk neg l)) ∧ Below w.heap.size w w' := by
  have Hs := Lib.hid hs
  clear hs
  go_enter Tryd.func4, Tryd.ntmps4
  go_wp2_with fail
  refine (check_any _ [⟨neg, A, l, c⟩] (by simp) _ ?hc).mono ?_
  case hc => exact Wcs.one (Hs.out.alloc _) (by simp)
  rintro e w1 ⟨rfl, hb⟩
  rw [chkW_one]
  have Hb := Lib.hid (below_mono (blw2 _ _ _) hb)
  clear hb
  go_wp2
  go_ret
  exact ⟨rfl, Hb.out⟩

end Go.Proofs.YthlfidbhldbedaaDoor

/- Walks: times. -/
import Derived.Test.YthlfidbhldbedaaW1
import Derived.Test.YthlfidbhldbedaaMem
import Derived.Test.YthlfidbhldbedaaMath
namespace Go.Proofs.Ythlfidbhldbedaa
open Go.RowKit
theorem mul_u64 {x y : Nat} (hx : x < 4294967296) (hy : y < 4294967296) : IntKind.u64.wrap ((x : Int) * (y : Int)) = ((x * y : Nat) : Int) := by
  have : x * y ≤ 4294967295 * 4294967295 := Nat.mul_le_mul (by omega) (by omega)
  rw [IntKind.wrap_u64, ← Int.natCast_mul]
  omega

theorem mul_le {x y : Nat} (hx : x < 4294967296) (hy : y < 4294967296) : x * y ≤ 18446744065119617025 := Nat.le_trans (Nat.mul_le_mul (show x ≤ 4294967295 by omega) (show y ≤ 4294967295 by omega)) (by omega)

set_option maxRecDepth 100000 in
set_option maxHeartbeats 2000000 in
theorem times_any (A1 A2 : Option Addr) (l1 l2 : List Nat) (c1 c2 : Nat) (w : World) (hs1 : Sl w A1 l1 c1) (hs2 : Sl w A2 l2 c2) (hlen1 : l1.length ≤ 1000000) (hlen2 : l2.length ≤ 1000000) :
    Calls Try.prog 72 #[.slice A1 l1.length c1, .slice A2 l2.length c2] w (VRes (val l1 * val l2) (l1.length + l2.length) w) := by
  obtain ⟨i0, hi, hz0, hz1, hz2⟩ := info_parts info32
  have hmk := fun W => run_make32 (P := Try.prog) 22 80 i0 Try.underlying22 hi hz0 hz1 hz2 ((l1.length : Int) + (l2.length : Int)) ((l1.length : Int) + (l2.length : Int)) (l1.length + l2.length) (l1.length + l2.length) (by omega) (by omega) (Nat.le_refl _) (by omega) W
  have Hs1 := Lib.hid hs1
  have Hs2 := Lib.hid hs2
  clear hs1 hs2 hi hz0 hz1 hz2
  go_enter Try.func72, Try.ntmps72
  go_wp2
  go_loopw [6, 7, 8, 9, 10, 19, 26] (fun _ _ _ _ _ i _ wr => ∃ (k : Nat) (o : List Nat), k ≤ l1.length ∧ i = .int .i64 k ∧ o.length = l1.length + l2.length ∧ Lim o ∧ Blk wr w.heap.size 80 o ∧ val o = pv l1 k * val l2 ∧ (∀ j, k + l2.length ≤ j → o[j]?.getD 0 = 0) ∧ Below w.heap.size w wr) (fun _ _ _ _ _ i _ _ => l1.length - (intOf i).toNat)
  case atStart => exact ⟨0, List.replicate (l1.length + l2.length) 0, Nat.zero_le _, rfl, by simp, lim_replicate _, Blk.zrow _ _ _, by rw [pv_zero, Nat.zero_mul]; exact val_replicate _, fun j _ => getD_replicate _ _, blw1 _ _⟩
  case round =>
    obtain ⟨k, o, hk, rfl, hol, holim, hblk, hval, hzero, hb⟩ := hrel
    obtain ⟨wo, rfl⟩ : ∃ wo : World, wo = wr := ⟨_, rfl⟩
    have Hol := Lib.hid hol
    have Hlim := Lib.hid holim
    have Hblk := Lib.hid hblk
    have Hval := Lib.hid hval
    have Hzero := Lib.hid hzero
    have Hb := Lib.hid hb
    clear hol holim hblk hval hzero hb
    by_cases hlt : k < l1.length
    · obtain ⟨b1, o1, rfl, hx1⟩ := (Hs1.out.below Hb.out).rd.at_ (k := k) hlt
      have hx2 := getD_lim Hs1.out.lim k
      have Hx : Hid (l1[k]?.getD 0 = l1[k]?.getD 0) := rfl
      generalize hgx : l1[k]?.getD 0 = x at *
      have Hgx := Lib.hid hgx
      clear hgx Hx
      go_wp2
      go_loopw [8, 9, 10, 26] (fun cy _ _ j wi => ∃ (m cr : Nat) (p : List Nat), m ≤ l2.length ∧ j = .int .i64 m ∧ cy = .int .u64 cr ∧ cr < 4294967296 ∧ p.length = l1.length + l2.length ∧ Lim p ∧ Blk wi w.heap.size 80 p ∧ val p + cr * 4294967296 ^ (k + m) = val o + x * pv l2 m * 4294967296 ^ k ∧ (∀ j, k + l2.length ≤ j → p[j]?.getD 0 = 0) ∧ Below w.heap.size w wi) (fun _ _ _ j _ => l2.length - (intOf j).toNat)
      case atStart => exact ⟨0, 0, o, Nat.zero_le _, rfl, rfl, by omega, Hol.out, Hlim.out, Hblk.out, by rw [pv_zero]; simp, Hzero.out, Hb.out⟩
      case round =>
        obtain ⟨m, cr, p, hm, rfl, rfl, hcr, hpl, hplim, hpblk, hpval, hpzero, hpb⟩ := hrel
        have Hpl := Lib.hid hpl
        have Hplim := Lib.hid hplim
        have Hpblk := Lib.hid hpblk
        have Hpval := Lib.hid hpval
        have Hpzero := Lib.hid hpzero
        have Hpb := Lib.hid hpb
        clear hpl hplim hpblk hpval hpzero hpb
        by_cases hlt2 : m < l2.length
        · obtain ⟨b2, o2, rfl, hy1⟩ := (Hs2.out.below Hpb.out).rd.at_ (k := m) hlt2
          have hy2 := getD_lim Hs2.out.lim m
          have hz1 := getD_lim Hplim.out (k + m)
          have hcell : wr.cell? ⟨w.heap.size, k + m, none⟩ = some (.int .u32 (p[k + m]?.getD 0 : Nat)) := Hpblk.out.cell (by rw [Hpl.out]; omega)
          have hfr : wr.frozen? ⟨w.heap.size, k + m, none⟩ = false := Hpblk.out.frozen _
          have Hst := Lib.hid (times_step (by rw [Hpl.out]; omega) Hpval.out)
          generalize l2[m]?.getD 0 = y at *
          generalize p[k + m]?.getD 0 = z at *
          have hmul := mul_u64 hx2 hy2
          have hmle := mul_le hx2 hy2
          generalize x * y = q at *
          have hcq : Hid ((cr + (q + z)) / 4294967296 < 4294967296) := by unfold Hid; omega
          go_wp2
          go_roundw
          case rel => exact ⟨m + 1, (cr + (q + z)) / 4294967296, p.set (k + m) ((cr + (q + z)) % 4294967296), by omega, by go_num, int_eq (by omega), hcq.out, by rw [List.length_set]; exact Hpl.out, lim_set Hplim.out (Nat.mod_lt _ (by omega)), Hpblk.out.setv (by omega) _, Hst.out, fun j hj => by rw [getD_set_ne (by omega)]; exact Hpzero.out j hj, Hpb.out.setCell (p := ⟨w.heap.size, k + m, none⟩) (Nat.le_refl _) _⟩
          case measure => simp [intOf]; omega
        · obtain rfl : m = l2.length := by omega
          have hcell : wr.cell? ⟨w.heap.size, k + l2.length, none⟩ = some (.int .u32 (p[k + l2.length]?.getD 0 : Nat)) := Hpblk.out.cell (by rw [Hpl.out]; omega)
          have hfr : wr.frozen? ⟨w.heap.size, k + l2.length, none⟩ = false := Hpblk.out.frozen _
          have Hrow : Hid (val (p.set (k + l2.length) cr) = pv l1 (k + 1) * val l2) := times_row (by rw [Hpl.out]; omega) (Hpzero.out _ (Nat.le_refl _)) Hgx.out (Nat.le_refl _) (by have h1 := Hpval.out; rw [Hval.out] at h1; exact h1)
          go_wp2
          go_roundw
          case rel => exact ⟨k + 1, p.set (k + l2.length) cr, by omega, by go_num, by rw [List.length_set]; exact Hpl.out, lim_set Hplim.out hcr, Hpblk.out.set_ _ _, Hrow.out, fun j hj => by rw [getD_set_ne (by omega)]; exact Hpzero.out j (by omega), Hpb.out.setCell (p := ⟨w.heap.size, k + l2.length, none⟩) (Nat.le_refl _) _⟩
          case measure => simp [intOf]; omega
    · obtain rfl : k = l1.length := by omega
      have Hfin : Hid (val o = val l1 * val l2) := by have h1 := Hval.out; rw [pv_all (Nat.le_refl _)] at h1; exact h1
      have Hr2 := Lib.hid Hblk.out.rd
      go_wp2
      go_ret
      exact ⟨_, l1.length + l2.length, o, by rw [Hol.out]; rfl, ⟨Hr2.out, Hlim.out, by rw [Hol.out]; exact Nat.le_refl _, by rw [Hol.out]; omega⟩, Hfin.out, by rw [Hol.out]; exact Nat.le_refl _, Hb.out⟩

end Go.Proofs.Ythlfidbhldbedaa

/- Walks: wide.left. -/
import Derived.Test.YthlfidbhldbedaaW1
import Derived.Test.YthlfidbhldbedaaMem
import Derived.Test.YthlfidbhldbedaaMath
namespace Go.Proofs.Ythlfidbhldbedaa
open Go.RowKit
theorem or_shl (cr x s : Nat) (hs : s < 32) (hc : cr < 2 ^ s) (hx : x < 4294967296) : bits .or .u64 (cr : Int) ((x * 2 ^ s : Nat) : Int) = ((cr + x * 2 ^ s : Nat) : Int) := by
  have h1 := shl_lt hc hx
  have h2 := pow_s hs
  rw [u64_or _ _ (by omega) (by omega) (by omega) (by omega)]
  congr 1
  rw [Int.toNat_natCast, Int.toNat_natCast, Nat.or_comm, Nat.mul_comm x, ← Nat.two_pow_add_eq_or_of_lt hc]
  omega

theorem wrap_shl (x s : Nat) (hs : s < 32) (hx : x < 4294967296) : IntKind.u64.wrap ((x : Int) * 2 ^ s) = ((x * 2 ^ s : Nat) : Int) := by
  have h1 := shl_lt (Nat.two_pow_pos s) hx
  have h2 := pow_s hs
  have h3 : (x : Int) * 2 ^ s = ((x * 2 ^ s : Nat) : Int) := by push_cast; rfl
  rw [h3, IntKind.wrap_u64]
  omega

set_option maxRecDepth 100000 in
set_option maxHeartbeats 2000000 in
theorem left_any (A1 : Option Addr) (l : List Nat) (c1 k : Nat) (w : World) (hs1 : Sl w A1 l c1) (hlen1 : l.length ≤ 1000000) (hk : k ≤ 1000000) :
    Calls Try.prog 85 #[.slice A1 l.length c1, .int .i64 k] w (ORes (val l * 2 ^ k) (k / 32 + l.length + 1) w) := by
  obtain ⟨i0, hi, hz0, hz1, hz2⟩ := info_parts info32
  obtain ⟨kq, hkq⟩ : ∃ kq, kq = k / 32 := ⟨_, rfl⟩
  obtain ⟨s, hs⟩ : ∃ s, s = k % 32 := ⟨_, rfl⟩
  have hs32 : s < 32 := by omega
  have hkq2 : kq ≤ 1000000 := by omega
  have Hpow : Hid (4294967296 ^ kq * 2 ^ s = 2 ^ k) := by unfold Hid; rw [hkq, hs]; exact pow_split k
  rw [← hkq]
  have hk1 : (k : Int) / 32 = (kq : Int) := by omega
  have hk2 : (k : Int) % 32 = (s : Int) := by omega
  clear hkq hs
  have hmk := fun W => run_make32 (P := Try.prog) 22 80 i0 Try.underlying22 hi hz0 hz1 hz2 (kq : Int) ((kq : Int) + (l.length : Int) + 1) kq (kq + l.length + 1) rfl (by omega) (by omega) (by omega) W
  have Hs1 := Lib.hid hs1
  clear hs1
  go_enter Try.func85, Try.ntmps85
  go_wp2
  go_loopw [5, 6, 8, 20] (fun v cy _ i wr => ∃ (k cr c : Nat) (A : Option Addr) (o : List Nat), k ≤ l.length ∧ i = .int .i64 k ∧ cy = .int .u64 cr ∧ cr < 2 ^ s ∧ v = .slice A o.length c ∧ o.length = kq + k ∧ Lim o ∧ Ow wr w.heap.size 80 (.slice A o.length c) o ∧ val o + cr * 4294967296 ^ o.length = 4294967296 ^ kq * (pv l k * 2 ^ s) ∧ Below w.heap.size w wr) (fun _ _ _ i _ => l.length - (intOf i).toNat)
  case atStart => exact ⟨0, 0, kq + l.length + 1, some ⟨w.heap.size, 0, none⟩, List.replicate kq 0, Nat.zero_le _, rfl, rfl, Nat.two_pow_pos s, by rw [List.length_replicate], by simp, lim_replicate _, by rw [List.length_replicate]; exact ow_zrow _ _ _ _ (by omega) (by omega), by rw [val_replicate, pv_zero]; simp, blw1 _ _⟩
  case round =>
    obtain ⟨m, cr, c, A, o, hk, rfl, rfl, hcr, rfl, hol, holim, hown, hsum, hb⟩ := hrel
    have Hol := Lib.hid hol
    have Hlim := Lib.hid holim
    have Hown := Lib.hid hown
    have Hsum := Lib.hid hsum
    have Hb := Lib.hid hb
    have Hcr := Lib.hid hcr
    have hbs := hb.size
    have hps := pow_s hs32
    have hcr2 : cr < 4294967296 := by omega
    have Hn1 : Hid (o.length + 1 ≤ 35184372088832) := by unfold Hid; omega
    clear hol holim hown hsum hb
    by_cases hlt : m < l.length
    · obtain ⟨b1, o1, rfl, hx1⟩ := (Hs1.out.below Hb.out).rd.at_ (k := m) hlt
      have hx2 := getD_lim Hs1.out.lim m
      have Hst := Lib.hid (left_step Hsum.out (show 4294967296 ^ o.length = 4294967296 ^ kq * 4294967296 ^ m by rw [Hol.out, Nat.pow_add]))
      have hout := shl_out hcr hx2
      have hlt2 := shl_lt hcr hx2
      have hor := or_shl cr (l[m]?.getD 0) s hs32 hcr hx2
      have hwr := wrap_shl (l[m]?.getD 0) s hs32 hx2
      have Hout := Lib.hid hout
      have ht : cr + l[m]?.getD 0 * 2 ^ s < 18446744073709551616 := by omega
      generalize l[m]?.getD 0 = x at *
      generalize hp : x * 2 ^ s = p at *
      generalize hgt : cr + p = t at *
      have ht2 : p < 18446744073709551616 := by omega
      clear hcr hps hout hlt2 hp hgt
      go_wp2_with (at_builtin; refine wpList_app rfl _ _ 22 rfl w.heap.size 80 i0 Try.underlying22 hi hz0 hz1 hz2 (.slice A o.length c) o rfl (Hown.out.alloc _) (some ⟨wr.heap.size, 0, none⟩) 1 [t % 4294967296] 1 rfl rfl (Rd.onev _ (by simp) _) Hn1.out (by simp; omega) ?_; intro A' c' w1 hown' hgrow _; have Hown' := Lib.hid hown'; have Hb' := Lib.hid (app_below Hb.out Hown.out hgrow); clear hown' hgrow)
      go_roundw
      case rel => exact ⟨m + 1, t / 4294967296, c', A', o ++ [t % 4294967296], by omega, by go_num, int_eq (by omega), Hout.out, by rw [List.length_append]; rfl, by rw [List.length_append, Hol.out]; rfl, snoc_lim Hlim.out (Nat.mod_lt _ (by omega)), Hown'.out, by rw [List.length_append]; exact Hst.out, Hb'.out⟩
      case measure => simp [intOf]; omega
    · obtain rfl : m = l.length := by omega
      have Hfin := Lib.hid (left_end Hsum.out)
      clear hcr hps
      go_wp2_with (at_builtin; refine wpList_app rfl _ _ 22 rfl w.heap.size 80 i0 Try.underlying22 hi hz0 hz1 hz2 (.slice A o.length c) o rfl (Hown.out.alloc _) (some ⟨wr.heap.size, 0, none⟩) 1 [cr] 1 rfl rfl (Rd.onev _ (by omega) _) Hn1.out (by simp; omega) ?_; intro A' c' w1 hown' hgrow _; have Hown' := Lib.hid hown'; have Hb' := Lib.hid (app_below Hb.out Hown.out hgrow); clear hown' hgrow)
      go_ret
      exact ⟨A', c', o ++ [cr], by rw [List.length_append]; rfl, Hown'.out, snoc_lim Hlim.out hcr2, by rw [Hfin.out, Hpow.out], by rw [List.length_append, Hol.out]; rfl, Hb'.out⟩

end Go.Proofs.Ythlfidbhldbedaa

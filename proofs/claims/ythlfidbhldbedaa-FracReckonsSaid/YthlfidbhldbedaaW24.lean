/- Walks: the reference's left. -/
import Derived.Test.YthlfidbhldbedaaW23
namespace Go.Proofs.Ythlfidbhldbedaa
open Go.RowKit
set_option maxRecDepth 100000 in
set_option maxHeartbeats 2000000 in
theorem rleft_any (A1 : Option Addr) (l : List Nat) (c1 s : Nat) (w : World) (hs1 : Sl w A1 l c1) (hlen1 : l.length ≤ 1000000) (hs32 : s < 32) :
    Calls Try.prog 89 #[.slice A1 l.length c1, .int .u64 s] w (ORes (val l * 2 ^ s) (l.length + 1) w) := by
  obtain ⟨i0, hi, hz0, hz1, hz2⟩ := info_parts info32
  have Hs1 := Lib.hid hs1
  clear hs1
  go_enter Try.func89, Try.ntmps89
  go_wp2
  go_loopw [5, 6, 7] (fun v cy i wr => ∃ (k cr c : Nat) (A : Option Addr) (o : List Nat), k ≤ l.length ∧ i = .int .i64 k ∧ cy = .int .u64 cr ∧ cr < 2 ^ s ∧ v = .slice A o.length c ∧ o.length = k ∧ Lim o ∧ Ow wr w.heap.size 80 (.slice A o.length c) o ∧ val o + cr * 4294967296 ^ o.length = 1 * (pv l k * 2 ^ s) ∧ Below w.heap.size w wr) (fun _ _ i _ => l.length - (intOf i).toNat)
  case atStart => exact ⟨0, 0, 0, none, [], Nat.zero_le _, rfl, rfl, Nat.two_pow_pos s, rfl, rfl, lim_nil, Ow.nil0 _ _ _, by rw [pv_zero]; simp [val], Below.refl _ _⟩
  case round =>
    obtain ⟨m, cr, c, A, o, hk, rfl, rfl, hcr, rfl, hol, holim, hown, hsum, hb⟩ := hrel
    have Hol := Lib.hid hol
    have Hlim := Lib.hid holim
    have Hown := Lib.hid hown
    have Hsum := Lib.hid hsum
    have Hb := Lib.hid hb
    have hbs := hb.size
    have hps := pow_s hs32
    have hcr2 : cr < 4294967296 := by omega
    have Hn1 : Hid (o.length + 1 ≤ 35184372088832) := by unfold Hid; omega
    clear hol holim hown hsum hb
    by_cases hlt : m < l.length
    · obtain ⟨b1, o1, rfl, hx1⟩ := (Hs1.out.below Hb.out).rd.at_ (k := m) hlt
      have hx2 := getD_lim Hs1.out.lim m
      have Hst := Lib.hid (left_step Hsum.out (show 4294967296 ^ o.length = 1 * 4294967296 ^ m by rw [Hol.out, Nat.one_mul]))
      have hout := shl_out hcr hx2
      have hlt2 := shl_lt hcr hx2
      have hwr := wrap_shl (l[m]?.getD 0) s hs32 hx2
      have Hout := Lib.hid hout
      have ht : cr + l[m]?.getD 0 * 2 ^ s < 18446744073709551616 := by omega
      generalize l[m]?.getD 0 = x at *
      generalize hp : x * 2 ^ s = p at *
      have ht2 : p < 18446744073709551616 := by omega
      clear hcr hps hout hlt2 hp
      go_wp2_with (at_builtin; refine wpList_app rfl _ _ 22 rfl w.heap.size 80 i0 Try.underlying22 hi hz0 hz1 hz2 (.slice A o.length c) o rfl (Hown.out.alloc _) (some ⟨wr.heap.size, 0, none⟩) 1 [(cr + p) % 4294967296] 1 rfl rfl (Rd.onev _ (by omega) _) Hn1.out (by simp; omega) ?_; intro A' c' w1 hown' hgrow _; have Hown' := Lib.hid hown'; have Hb' := Lib.hid (app_below Hb.out Hown.out hgrow); clear hown' hgrow)
      go_roundw
      case rel => exact ⟨m + 1, (cr + p) / 4294967296, c', A', o ++ [(cr + p) % 4294967296], by omega, by go_num, int_eq (by omega), Hout.out, by rw [List.length_append]; rfl, by rw [List.length_append, Hol.out]; rfl, snoc_lim Hlim.out (Nat.mod_lt _ (by omega)), Hown'.out, by rw [List.length_append]; exact Hst.out, Hb'.out⟩
      case measure => simp [intOf]; omega
    · obtain rfl : m = l.length := by omega
      have Hfin := Lib.hid (left_end Hsum.out)
      clear hcr hps
      go_wp2_with (at_builtin; refine wpList_app rfl _ _ 22 rfl w.heap.size 80 i0 Try.underlying22 hi hz0 hz1 hz2 (.slice A o.length c) o rfl (Hown.out.alloc _) (some ⟨wr.heap.size, 0, none⟩) 1 [cr] 1 rfl rfl (Rd.onev _ (by omega) _) Hn1.out (by simp; omega) ?_; intro A' c' w1 hown' hgrow _; have Hown' := Lib.hid hown'; have Hb' := Lib.hid (app_below Hb.out Hown.out hgrow); clear hown' hgrow)
      go_ret
      exact ⟨A', c', o ++ [cr], by rw [List.length_append]; rfl, Hown'.out, snoc_lim Hlim.out hcr2, by rw [Hfin.out, Nat.one_mul], by rw [List.length_append, Hol.out]; rfl, Hb'.out⟩

end Go.Proofs.Ythlfidbhldbedaa

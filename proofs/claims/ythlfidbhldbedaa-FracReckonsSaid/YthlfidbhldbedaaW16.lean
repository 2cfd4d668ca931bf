/- Walks: the reference's minus. -/
import Derived.Test.YthlfidbhldbedaaW10
import Derived.Test.YthlfidbhldbedaaMem
import Derived.Test.YthlfidbhldbedaaMath
namespace Go.Proofs.Ythlfidbhldbedaa
open Go.RowKit
set_option maxRecDepth 100000 in
set_option maxHeartbeats 2000000 in
theorem rminus_any (A1 A2 : Option Addr) (l1 l2 : List Nat) (c1 c2 : Nat) (w : World) (hs1 : Sl w A1 l1 c1) (hs2 : Sl w A2 l2 c2) (hle : l2.length ≤ l1.length) (hlen : l1.length ≤ 1000000) (hval : val l2 ≤ val l1) :
    Calls Try.prog 94 #[.slice A1 l1.length c1, .slice A2 l2.length c2] w (LRes (limbs (val l1 - val l2)) w) := by
  obtain ⟨i0, hi, hz0, hz1, hz2⟩ := info_parts info32
  have Hs1 := Lib.hid hs1
  have Hs2 := Lib.hid hs2
  have Hval := Lib.hid hval
  clear hs1 hs2 hval
  go_enter Try.func94, Try.ntmps94
  go_wp2
  go_loopw [5, 6, 7, 8] (fun v cy i _ wr => ∃ (k cr c : Nat) (A : Option Addr) (o : List Nat), k ≤ l1.length ∧ i = .int .i64 k ∧ cy = .int .i64 cr ∧ cr ≤ 1 ∧ v = .slice A o.length c ∧ o.length = k ∧ Lim o ∧ Ow wr w.heap.size 80 (.slice A o.length c) o ∧ pv o k + pv l2 k = pv l1 k + cr * 4294967296 ^ k ∧ Below w.heap.size w wr) (fun _ _ i _ _ => l1.length - (intOf i).toNat)
  case atStart => exact ⟨0, 0, 0, none, [], Nat.zero_le _, rfl, rfl, by omega, rfl, rfl, lim_nil, Ow.nil0 _ _ _, by simp [pv_zero], Below.refl _ _⟩
  case round =>
    obtain ⟨k, cr, c, A, o, hk, rfl, rfl, hcr, rfl, hol, holim, hown, hsum, hb⟩ := hrel
    have Hol := Lib.hid hol
    have Hlim := Lib.hid holim
    have Hown := Lib.hid hown
    have Hsum := Lib.hid hsum
    have Hb := Lib.hid hb
    have Hk := Lib.hid hk
    have hbs := hb.size
    have hk2 : k ≤ 1000000 := by omega
    clear holim hown hsum hb hk
    by_cases hla : k < l1.length
    · have hx2 := getD_lim Hs1.out.lim k
      have hy2 := getD_lim Hs2.out.lim k
      have Hst := Lib.hid (minus_snoc hol (sub_eq hx2 hy2 hcr) Hsum.out)
      have Hn : Hid (o.length + [(l1[k]?.getD 0 + 8589934592 - l2[k]?.getD 0 - cr) % 4294967296].length ≤ 35184372088832) := by unfold Hid; simp; omega
      clear hol
      obtain ⟨b1, o1, rfl, hx1⟩ := (Hs1.out.below Hb.out).rd.at_ (k := k) hla
      by_cases hneg : l1[k]?.getD 0 < l2[k]?.getD 0 + cr
      · by_cases hlb : k < l2.length
        · obtain ⟨b2, o2, rfl, hy1⟩ := (Hs2.out.below Hb.out).rd.at_ (k := k) hlb
          have Hcb := Lib.hid (if_pos hneg : (if l1[k]?.getD 0 < l2[k]?.getD 0 + cr then 1 else 0) = 1)
          rw [Hcb.out] at Hst
          clear Hcb
          generalize l1[k]?.getD 0 = x at *
          generalize l2[k]?.getD 0 = y at *
          go_wp2_with (at_builtin; refine wpList_app rfl _ _ 22 rfl w.heap.size 80 i0 Try.underlying22 hi hz0 hz1 hz2 (.slice A o.length c) o rfl (Hown.out.alloc _) (some ⟨wr.heap.size, 0, none⟩) 1 [(x + 8589934592 - y - cr) % 4294967296] 1 rfl rfl (Rd.onev _ (by omega) _) Hn.out (by simp; omega) ?_; intro A' c' w1 hown' hgrow _; have Hown' := Lib.hid hown'; have Hb' := Lib.hid (app_below Hb.out Hown.out hgrow); clear hown' hgrow)
          go_roundw
          case rel => exact ⟨k + 1, 1, c', A', o ++ [(x + 8589934592 - y - cr) % 4294967296], by omega, by go_num, by go_num, by omega, by rw [List.length_append]; rfl, by rw [List.length_append, Hol.out]; rfl, snoc_lim Hlim.out (Nat.mod_lt _ (by omega)), Hown'.out, Hst.out, Hb'.out⟩
          case measure => simp [intOf]; omega
        · have hy0 : l2[k]?.getD 0 = 0 := by rw [List.getElem?_eq_none (by omega)]; rfl
          rw [hy0] at Hst Hn hneg
          clear hy0 hy2
          have Hcb := Lib.hid (if_pos hneg : (if l1[k]?.getD 0 < 0 + cr then 1 else 0) = 1)
          rw [Hcb.out] at Hst
          clear Hcb
          generalize l1[k]?.getD 0 = x at *
          go_wp2_with (at_builtin; refine wpList_app rfl _ _ 22 rfl w.heap.size 80 i0 Try.underlying22 hi hz0 hz1 hz2 (.slice A o.length c) o rfl (Hown.out.alloc _) (some ⟨wr.heap.size, 0, none⟩) 1 [(x + 8589934592 - 0 - cr) % 4294967296] 1 rfl rfl (Rd.onev _ (by omega) _) Hn.out (by simp; omega) ?_; intro A' c' w1 hown' hgrow _; have Hown' := Lib.hid hown'; have Hb' := Lib.hid (app_below Hb.out Hown.out hgrow); clear hown' hgrow)
          go_roundw
          case rel => exact ⟨k + 1, 1, c', A', o ++ [(x + 8589934592 - 0 - cr) % 4294967296], by omega, by go_num, by go_num, by omega, by rw [List.length_append]; rfl, by rw [List.length_append, Hol.out]; rfl, snoc_lim Hlim.out (Nat.mod_lt _ (by omega)), Hown'.out, Hst.out, Hb'.out⟩
          case measure => simp [intOf]; omega
      · by_cases hlb : k < l2.length
        · obtain ⟨b2, o2, rfl, hy1⟩ := (Hs2.out.below Hb.out).rd.at_ (k := k) hlb
          have Hcb := Lib.hid (if_neg hneg : (if l1[k]?.getD 0 < l2[k]?.getD 0 + cr then 1 else 0) = 0)
          rw [Hcb.out] at Hst
          clear Hcb
          generalize l1[k]?.getD 0 = x at *
          generalize l2[k]?.getD 0 = y at *
          go_wp2_with (at_builtin; refine wpList_app rfl _ _ 22 rfl w.heap.size 80 i0 Try.underlying22 hi hz0 hz1 hz2 (.slice A o.length c) o rfl (Hown.out.alloc _) (some ⟨wr.heap.size, 0, none⟩) 1 [(x + 8589934592 - y - cr) % 4294967296] 1 rfl rfl (Rd.onev _ (by omega) _) Hn.out (by simp; omega) ?_; intro A' c' w1 hown' hgrow _; have Hown' := Lib.hid hown'; have Hb' := Lib.hid (app_below Hb.out Hown.out hgrow); clear hown' hgrow)
          go_roundw
          case rel => exact ⟨k + 1, 0, c', A', o ++ [(x + 8589934592 - y - cr) % 4294967296], by omega, by go_num, by go_num, by omega, by rw [List.length_append]; rfl, by rw [List.length_append, Hol.out]; rfl, snoc_lim Hlim.out (Nat.mod_lt _ (by omega)), Hown'.out, Hst.out, Hb'.out⟩
          case measure => simp [intOf]; omega
        · have hy0 : l2[k]?.getD 0 = 0 := by rw [List.getElem?_eq_none (by omega)]; rfl
          rw [hy0] at Hst Hn hneg
          clear hy0 hy2
          have Hcb := Lib.hid (if_neg hneg : (if l1[k]?.getD 0 < 0 + cr then 1 else 0) = 0)
          rw [Hcb.out] at Hst
          clear Hcb
          generalize l1[k]?.getD 0 = x at *
          go_wp2_with (at_builtin; refine wpList_app rfl _ _ 22 rfl w.heap.size 80 i0 Try.underlying22 hi hz0 hz1 hz2 (.slice A o.length c) o rfl (Hown.out.alloc _) (some ⟨wr.heap.size, 0, none⟩) 1 [(x + 8589934592 - 0 - cr) % 4294967296] 1 rfl rfl (Rd.onev _ (by omega) _) Hn.out (by simp; omega) ?_; intro A' c' w1 hown' hgrow _; have Hown' := Lib.hid hown'; have Hb' := Lib.hid (app_below Hb.out Hown.out hgrow); clear hown' hgrow)
          go_roundw
          case rel => exact ⟨k + 1, 0, c', A', o ++ [(x + 8589934592 - 0 - cr) % 4294967296], by omega, by go_num, by go_num, by omega, by rw [List.length_append]; rfl, by rw [List.length_append, Hol.out]; rfl, snoc_lim Hlim.out (Nat.mod_lt _ (by omega)), Hown'.out, Hst.out, Hb'.out⟩
          case measure => simp [intOf]; omega
    · clear hol
      obtain rfl : k = l1.length := by have := Hk.out; omega
      have Hfin := Lib.hid (minus_end Hol.out Hlim.out (Nat.le_refl _) hle Hval.out Hsum.out)
      have Hsl := Lib.hid (Hown.out.sl Hlim.out (by rw [Hol.out]; omega))
      go_wp2_with fail
      refine (rtrim_any _ _ _ _ Hsl.out).mono ?_
      rw [Hfin.out]
      rintro e w1 ⟨A', c', rfl, hs', hb'⟩
      have Hs' := Lib.hid hs'
      have Hb' := Lib.hid hb'
      clear hs' hb'
      go_wp2
      go_ret
      exact ⟨A', c', rfl, Hs'.out, below_mono Hb.out Hb'.out⟩

end Go.Proofs.Ythlfidbhldbedaa

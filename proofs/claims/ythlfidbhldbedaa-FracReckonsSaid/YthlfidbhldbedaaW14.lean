/- Walks: the reference's times. -/
import Derived.Test.YthlfidbhldbedaaW13
import Derived.Test.YthlfidbhldbedaaW1
import Derived.Test.YthlfidbhldbedaaMem
import Derived.Test.YthlfidbhldbedaaMath
namespace Go.Proofs.Ythlfidbhldbedaa
open Go.RowKit
set_option maxRecDepth 100000 in
set_option maxHeartbeats 2000000 in
theorem rtimes_any (A1 A2 : Option Addr) (l1 l2 : List Nat) (c1 c2 : Nat) (w : World) (hs1 : Sl w A1 l1 c1) (hs2 : Sl w A2 l2 c2) (hlen1 : l1.length ≤ 1000000) (hlen2 : l2.length ≤ 1000000) :
    Calls Try.prog 76 #[.slice A1 l1.length c1, .slice A2 l2.length c2] w (VRes (val l1 * val l2) (l1.length + l2.length) w) := by
  obtain ⟨i0, hi, hz0, hz1, hz2⟩ := info_parts info32
  have hmk := fun W => run_make32 (P := Try.prog) 22 80 i0 Try.underlying22 hi hz0 hz1 hz2 ((l1.length : Int) + (l2.length : Int)) ((l1.length : Int) + (l2.length : Int)) (l1.length + l2.length) (l1.length + l2.length) (by omega) (by omega) (Nat.le_refl _) (by omega) W
  have Hs1 := Lib.hid hs1
  have Hs2 := Lib.hid hs2
  clear hs1 hs2 hi hz0 hz1 hz2
  go_enter Try.func76, Try.ntmps76
  go_wp2
  go_loopw [6, 7, 8] (fun i _ _ wr => ∃ (k : Nat) (o : List Nat), k ≤ l1.length ∧ i = .int .i64 k ∧ o.length = l1.length + l2.length ∧ Lim o ∧ Blk wr w.heap.size 80 o ∧ val o = pv l1 k * val l2 ∧ (∀ j, k + l2.length ≤ j → o[j]?.getD 0 = 0) ∧ Below w.heap.size w wr) (fun i _ _ _ => l1.length - (intOf i).toNat)
  case atStart => exact ⟨0, List.replicate (l1.length + l2.length) 0, Nat.zero_le _, rfl, by simp, lim_replicate _, Blk.zrow _ _ _, by rw [pv_zero, Nat.zero_mul]; exact val_replicate _, fun j _ => getD_replicate _ _, blw1 _ _⟩
  case round =>
    obtain ⟨k, o, hk, rfl, hol, holim, hblk, hval, hzero, hb⟩ := hrel
    obtain ⟨wo, rfl⟩ : ∃ wo : World, wo = wr := ⟨_, rfl⟩
    have Hol := Lib.hid hol
    have Hlim := Lib.hid holim
    have Hblk := Lib.hid hblk
    have Hval := Lib.hid hval
    have Hzero := Lib.hid hzero
    have Hb := Lib.hid hb
    clear hol holim hblk hval hzero hb
    by_cases hlt : k < l1.length
    · have hx2 := getD_lim Hs1.out.lim k
      go_wp2
      go_loopw [7, 8] (fun cy j wi => ∃ (m cr : Nat) (p : List Nat), m ≤ l2.length ∧ j = .int .i64 m ∧ cy = .int .u64 cr ∧ cr < 4294967296 ∧ p.length = l1.length + l2.length ∧ Lim p ∧ Blk wi w.heap.size 80 p ∧ val p + cr * 4294967296 ^ (k + m) = val o + l1[k]?.getD 0 * pv l2 m * 4294967296 ^ k ∧ (∀ j, k + l2.length ≤ j → p[j]?.getD 0 = 0) ∧ Below w.heap.size w wi) (fun _ j _ => l2.length - (intOf j).toNat)
      case atStart => exact ⟨0, 0, o, Nat.zero_le _, rfl, rfl, by omega, Hol.out, Hlim.out, Hblk.out, by rw [pv_zero]; simp, Hzero.out, Hb.out⟩
      case round =>
        obtain ⟨m, cr, p, hm, rfl, rfl, hcr, hpl, hplim, hpblk, hpval, hpzero, hpb⟩ := hrel
        have Hpl := Lib.hid hpl
        have Hplim := Lib.hid hplim
        have Hpblk := Lib.hid hpblk
        have Hpval := Lib.hid hpval
        have Hpzero := Lib.hid hpzero
        have Hpb := Lib.hid hpb
        clear hpl hplim hpblk hpval hpzero hpb
        by_cases hlt2 : m < l2.length
        · obtain ⟨b1, o1, rfl, hx1⟩ := (Hs1.out.below Hpb.out).rd.at_ (k := k) hlt
          obtain ⟨b2, o2, rfl, hy1⟩ := (Hs2.out.below Hpb.out).rd.at_ (k := m) hlt2
          have hy2 := getD_lim Hs2.out.lim m
          have hz1 := getD_lim Hplim.out (k + m)
          have hcell : wr.cell? ⟨w.heap.size, k + m, none⟩ = some (.int .u32 (p[k + m]?.getD 0 : Nat)) := Hpblk.out.cell (by rw [Hpl.out]; omega)
          have hfr : wr.frozen? ⟨w.heap.size, k + m, none⟩ = false := Hpblk.out.frozen _
          have Hst := Lib.hid (times_step (by rw [Hpl.out]; omega) Hpval.out)
          generalize l1[k]?.getD 0 = x at *
          generalize l2[m]?.getD 0 = y at *
          generalize p[k + m]?.getD 0 = z at *
          have hmul := mul_u64 hx2 hy2
          have hmle := mul_le hx2 hy2
          generalize x * y = q at *
          have hcq : Hid ((cr + (q + z)) / 4294967296 < 4294967296) := by unfold Hid; omega
          go_wp2
          go_quiet (fail)
          go_wp2
          go_roundw
          case rel => exact ⟨m + 1, (cr + (q + z)) / 4294967296, p.set (k + m) ((cr + (q + z)) % 4294967296), by omega, by go_num, int_eq (by omega), hcq.out, by rw [List.length_set]; exact Hpl.out, lim_set Hplim.out (Nat.mod_lt _ (by omega)), (Hpblk.out.drewN _).setv (by omega) _, Hst.out, fun j hj => by rw [getD_set_ne (by omega)]; exact Hpzero.out j hj, (below_drewN Hpb.out _).setCell (p := ⟨w.heap.size, k + m, none⟩) (Nat.le_refl _) _⟩
          case measure => simp [intOf]; omega
        · obtain rfl : m = l2.length := by omega
          have hcell : wr.cell? ⟨w.heap.size, k + l2.length, none⟩ = some (.int .u32 (p[k + l2.length]?.getD 0 : Nat)) := Hpblk.out.cell (by rw [Hpl.out]; omega)
          have hfr : wr.frozen? ⟨w.heap.size, k + l2.length, none⟩ = false := Hpblk.out.frozen _
          have Hrow : Hid (val (p.set (k + l2.length) cr) = pv l1 (k + 1) * val l2) := times_row (by rw [Hpl.out]; omega) (Hpzero.out _ (Nat.le_refl _)) rfl (Nat.le_refl _) (by have h1 := Hpval.out; rw [Hval.out] at h1; exact h1)
          go_wp2
          go_roundw
          case rel => exact ⟨k + 1, p.set (k + l2.length) cr, by omega, by go_num, by rw [List.length_set]; exact Hpl.out, lim_set Hplim.out hcr, Hpblk.out.set_ _ _, Hrow.out, fun j hj => by rw [getD_set_ne (by omega)]; exact Hpzero.out j (by omega), Hpb.out.setCell (p := ⟨w.heap.size, k + l2.length, none⟩) (Nat.le_refl _) _⟩
          case measure => simp [intOf]; omega
    · obtain rfl : k = l1.length := by omega
      have Hfin : Hid (val o = val l1 * val l2) := by have h1 := Hval.out; rw [pv_all (Nat.le_refl _)] at h1; exact h1
      have Hr2 := Lib.hid Hblk.out.rd
      go_wp2
      go_ret
      exact ⟨_, l1.length + l2.length, o, by rw [Hol.out]; rfl, ⟨Hr2.out, Hlim.out, by rw [Hol.out]; exact Nat.le_refl _, by rw [Hol.out]; omega⟩, Hfin.out, by rw [Hol.out]; exact Nat.le_refl _, Hb.out⟩

end Go.Proofs.Ythlfidbhldbedaa
/- Walks: the reference's plus. -/
namespace Go.Proofs.Ythlfidbhldbedaa
open Go.RowKit
/-- .. of a value and a length. -/
def VResE (n m : Nat) (w : World) : Ending → World → Prop := fun e w' =>
  ∃ A c r, e = .returned (.slice A r.length c) ∧ Sl w' A r c ∧ val r = n ∧ r.length = m ∧ Below w.heap.size w w'

set_option maxRecDepth 100000 in
set_option maxHeartbeats 2000000 in
theorem rplus_eq (A1 A2 : Option Addr) (l1 l2 : List Nat) (c1 c2 : Nat) (w : World) (hs1 : Sl w A1 l1 c1) (hs2 : Sl w A2 l2 c2) (hlen1 : l1.length ≤ 1000000) (hlen2 : l2.length ≤ 1000000) :
    Calls Try.prog 93 #[.slice A1 l1.length c1, .slice A2 l2.length c2] w (VResE (val l1 + val l2) (max l1.length l2.length + 1) w) := by
  obtain ⟨i0, hi, hz0, hz1, hz2⟩ := info_parts info32
  have Hs1 := Lib.hid hs1
  have Hs2 := Lib.hid hs2
  clear hs1 hs2
  go_enter Try.func93, Try.ntmps93
  go_wp2
  go_loopw [5, 6, 7] (fun v cy i wr => ∃ (k cr c : Nat) (A : Option Addr) (o : List Nat), k ≤ max l1.length l2.length ∧ i = .int .i64 k ∧ cy = .int .u64 cr ∧ cr ≤ 1 ∧ v = .slice A o.length c ∧ o.length = k ∧ Lim o ∧ Ow wr w.heap.size 80 (.slice A o.length c) o ∧ pv o k + cr * 4294967296 ^ k = pv l1 k + pv l2 k ∧ Below w.heap.size w wr) (fun _ _ i _ => max l1.length l2.length - (intOf i).toNat)
  case atStart => exact ⟨0, 0, 0, none, [], Nat.zero_le _, rfl, rfl, by omega, rfl, rfl, lim_nil, Ow.nil0 _ _ _, by simp [pv_zero], Below.refl _ _⟩
  case round =>
    obtain ⟨k, cr, c, A, o, hk, rfl, rfl, hcr, rfl, hol, holim, hown, hsum, hb⟩ := hrel
    have Hol := Lib.hid hol
    have Hlim := Lib.hid holim
    have Hown := Lib.hid hown
    have Hsum := Lib.hid hsum
    have Hb := Lib.hid hb
    have Hk := Lib.hid hk
    have hbs := hb.size
    have hk2 : k ≤ 1000000 := by omega
    clear holim hown hsum hb hk
    have hx2 := getD_lim Hs1.out.lim k
    have hy2 := getD_lim Hs2.out.lim k
    have Hq : Hid ((l1[k]?.getD 0 + l2[k]?.getD 0 + cr) / 4294967296 ≤ 1) := by unfold Hid; omega
    have Hst := Lib.hid (plus_snoc hol Hsum.out)
    have Hn : Hid (o.length + [(l1[k]?.getD 0 + l2[k]?.getD 0 + cr) % 4294967296].length ≤ 35184372088832) := by unfold Hid; simp; omega
    have Hn2 : Hid (o.length + [cr].length ≤ 35184372088832) := by unfold Hid; simp; omega
    clear hol
    by_cases hla : k < l1.length
    · by_cases hlb : k < l2.length
      · obtain ⟨b1, o1, rfl, hx1⟩ := (Hs1.out.below Hb.out).rd.at_ (k := k) hla
        obtain ⟨b2, o2, rfl, hy1⟩ := (Hs2.out.below Hb.out).rd.at_ (k := k) hlb
        generalize l1[k]?.getD 0 = x at *
        generalize l2[k]?.getD 0 = y at *
        go_wp2_with (at_builtin; refine wpList_app rfl _ _ 22 rfl w.heap.size 80 i0 Try.underlying22 hi hz0 hz1 hz2 (.slice A o.length c) o rfl (Hown.out.alloc _) (some ⟨wr.heap.size, 0, none⟩) 1 [(x + y + cr) % 4294967296] 1 rfl rfl (Rd.onev _ (by omega) _) Hn.out (by simp; omega) ?_; intro A' c' w1 hown' hgrow _; have Hown' := Lib.hid hown'; have Hb' := Lib.hid (app_below Hb.out Hown.out hgrow); clear hown' hgrow)
        go_roundw
        case rel => exact ⟨k + 1, (x + y + cr) / 4294967296, c', A', o ++ [(x + y + cr) % 4294967296], by have := Hk.out; omega, by go_num, int_eq (by omega), Hq.out, by rw [List.length_append]; rfl, by rw [List.length_append, Hol.out]; rfl, snoc_lim Hlim.out (Nat.mod_lt _ (by omega)), Hown'.out, Hst.out, Hb'.out⟩
        case measure => have := Hk.out; simp [intOf]; omega
      · obtain ⟨b1, o1, rfl, hx1⟩ := (Hs1.out.below Hb.out).rd.at_ (k := k) hla
        have hy0 : l2[k]?.getD 0 = 0 := by rw [List.getElem?_eq_none (by omega)]; rfl
        rw [hy0] at Hst Hq Hn
        clear hy0 hy2
        generalize l1[k]?.getD 0 = x at *
        go_wp2_with (at_builtin; refine wpList_app rfl _ _ 22 rfl w.heap.size 80 i0 Try.underlying22 hi hz0 hz1 hz2 (.slice A o.length c) o rfl (Hown.out.alloc _) (some ⟨wr.heap.size, 0, none⟩) 1 [(x + 0 + cr) % 4294967296] 1 rfl rfl (Rd.onev _ (by omega) _) Hn.out (by simp; omega) ?_; intro A' c' w1 hown' hgrow _; have Hown' := Lib.hid hown'; have Hb' := Lib.hid (app_below Hb.out Hown.out hgrow); clear hown' hgrow)
        go_roundw
        case rel => exact ⟨k + 1, (x + 0 + cr) / 4294967296, c', A', o ++ [(x + 0 + cr) % 4294967296], by have := Hk.out; omega, by go_num, int_eq (by omega), Hq.out, by rw [List.length_append]; rfl, by rw [List.length_append, Hol.out]; rfl, snoc_lim Hlim.out (Nat.mod_lt _ (by omega)), Hown'.out, Hst.out, Hb'.out⟩
        case measure => have := Hk.out; simp [intOf]; omega
    · by_cases hlb : k < l2.length
      · have hx0 : l1[k]?.getD 0 = 0 := by rw [List.getElem?_eq_none (by omega)]; rfl
        rw [hx0] at Hst Hq Hn
        clear hx0 hx2
        obtain ⟨b2, o2, rfl, hy1⟩ := (Hs2.out.below Hb.out).rd.at_ (k := k) hlb
        generalize l2[k]?.getD 0 = y at *
        go_wp2_with (at_builtin; refine wpList_app rfl _ _ 22 rfl w.heap.size 80 i0 Try.underlying22 hi hz0 hz1 hz2 (.slice A o.length c) o rfl (Hown.out.alloc _) (some ⟨wr.heap.size, 0, none⟩) 1 [(0 + y + cr) % 4294967296] 1 rfl rfl (Rd.onev _ (by omega) _) Hn.out (by simp; omega) ?_; intro A' c' w1 hown' hgrow _; have Hown' := Lib.hid hown'; have Hb' := Lib.hid (app_below Hb.out Hown.out hgrow); clear hown' hgrow)
        go_roundw
        case rel => exact ⟨k + 1, (0 + y + cr) / 4294967296, c', A', o ++ [(0 + y + cr) % 4294967296], by have := Hk.out; omega, by go_num, int_eq (by omega), Hq.out, by rw [List.length_append]; rfl, by rw [List.length_append, Hol.out]; rfl, snoc_lim Hlim.out (Nat.mod_lt _ (by omega)), Hown'.out, Hst.out, Hb'.out⟩
        case measure => have := Hk.out; simp [intOf]; omega
      · have Hfin := Lib.hid (plus_snoc_end Hol.out (by omega) (by omega) Hsum.out)
        have Hkk : Hid (k = max l1.length l2.length) := by unfold Hid; have := Hk.out; omega
        go_wp2_with (at_builtin; refine wpList_app rfl _ _ 22 rfl w.heap.size 80 i0 Try.underlying22 hi hz0 hz1 hz2 (.slice A o.length c) o rfl (Hown.out.alloc _) (some ⟨wr.heap.size, 0, none⟩) 1 [cr] 1 rfl rfl (Rd.onev _ (by omega) _) Hn2.out (by simp; omega) ?_; intro A' c' w1 hown' hgrow _; have Hown' := Lib.hid hown'; have Hb' := Lib.hid (app_below Hb.out Hown.out hgrow); clear hown' hgrow)
        go_ret
        exact ⟨A', c', o ++ [cr], by rw [List.length_append]; rfl, Hown'.out.sl (snoc_lim Hlim.out (by omega)) (by rw [List.length_append]; exact Hn2.out), Hfin.out, by rw [List.length_append, Hol.out, ← Hkk.out]; rfl, Hb'.out⟩

theorem rplus_any (A1 A2 : Option Addr) (l1 l2 : List Nat) (c1 c2 : Nat) (w : World) (hs1 : Sl w A1 l1 c1) (hs2 : Sl w A2 l2 c2) (hlen1 : l1.length ≤ 1000000) (hlen2 : l2.length ≤ 1000000) :
    Calls Try.prog 93 #[.slice A1 l1.length c1, .slice A2 l2.length c2] w (VRes (val l1 + val l2) (max l1.length l2.length + 1) w) :=
  (rplus_eq A1 A2 l1 l2 c1 c2 w hs1 hs2 hlen1 hlen2).mono fun _ _ ⟨A, c, r, e, s, v, n, b⟩ => ⟨A, c, r, e, s, v, Nat.le_of_eq n, b⟩

end Go.Proofs.Ythlfidbhldbedaa

import Derived.Test.YtlekjkljajeodaaGreatW10
import Derived.Test.YtlekjkljajeodaaGreatDown
set_option maxHeartbeats 2000000
set_option maxRecDepth 100000
namespace Go.Proofs.YtlekjkljajeodaaGreat
open Lib renaming hid → lh
open Go.RowKit
theorem plus_ge (A1 A2 : Option Addr) (l1 l2 : List Nat) (c1 c2 : Nat) (w : World) (hs1 : Sl w A1 l1 c1) (hs2 : Sl w A2 l2 c2) (hle : l2.length ≤ l1.length) (hlen : l1.length ≤ 1000000) :
  Calls Tryz.prog 194 #[.slice A1 l1.length c1, .slice A2 l2.length c2] w (VRes (val l1 + val l2) (l1.length + 1) w) := by
 obtain ⟨i0, hi, hz0, hz1, hz2⟩ := info_parts q2q;have hmk := fun W => q1a (P := Tryz.prog) 63 187 i0 Tryz.underlying63 hi hz0 hz1 hz2 ((l1.length : Int) + 1) ((l1.length : Int) + 1) (l1.length + 1) (l1.length + 1) (by omega) (by omega) (Nat.le_refl _) (by omega) W;have Hs1 := lh hs1;have Hs2 := lh hs2;clear hs1 hs2 hi hz0 hz1 hz2;have hdec : decide (l1.length < l2.length) = false := (by rw [decide_eq_false_iff_not]; omega);go_enter Tryz.func194, Tryz.ntmps194
 go_wp2
 go_loopw [6, 7, 8, 9, 23] (fun cy _ _ _ i wr => ∃ (k cr : Nat) (o : List Nat), k ≤ l1.length ∧ i = .int .i64 k ∧ cy = .int .u32 cr ∧ cr ≤ 1 ∧ o.length = l1.length + 1 ∧ Lim o ∧ Blk wr w.heap.size 187 o ∧ pv o k + cr * 4294967296 ^ k = pv l1 k + pv l2 k ∧ Below w.heap.size w wr) (fun _ _ _ _ i _ => l1.length - (intOf i).toNat)
 case atStart => exact ⟨0, 0, List.replicate (l1.length + 1) 0, Nat.zero_le _, rfl, rfl, by omega, by simp, q0n _, Blk.zrow _ _ _, by simp [q1m], blw1 _ _⟩
 case round =>
  obtain ⟨k, cr, o, hk, rfl, rfl, hcr, hol, holim, hblk, hsum, hb⟩ := hrel;have Hol := lh hol;have Hlim := lh holim;have Hblk := lh hblk;have Hsum := lh hsum;have Hb := lh hb;clear hol holim hblk hsum hb;by_cases hlt : k < l1.length
  ·obtain ⟨b1, o1, rfl, hx1⟩ := (Hs1.out.below Hb.out).rd.at_ (k := k) hlt;have hx2 := q0h Hs1.out.lim k;have hy2 := q0h Hs2.out.lim k;have hcell : wr.cell? ⟨w.heap.size, k, none⟩ = some (.int .u32 (o[k]?.getD 0 : Nat)) := Hblk.out.cell (by rw [Hol.out]; omega);have hfr : wr.frozen? ⟨w.heap.size, k, none⟩ = false := Hblk.out.frozen k;have Hst := lh (plus_step (by rw [Hol.out]; omega) Hsum.out);have Hq : Hid ((l1[k]?.getD 0 + l2[k]?.getD 0 + cr) / 4294967296 ≤ 1) := (by unfold Hid; omega);by_cases hlt2 : k < l2.length
   ·obtain ⟨b2, o2, rfl, hy1⟩ := (Hs2.out.below Hb.out).rd.at_ (k := k) hlt2;generalize l1[k]?.getD 0 = x at *;generalize l2[k]?.getD 0 = y at *;go_wp2_with fail
    refine (add32_any x y cr hx2 hy2 hcr _).mono ?_;rintro e w1 ⟨rfl, rfl⟩;go_wp2
    go_roundw
    case rel => exact ⟨k + 1, _, o.set k ((x + y + cr) % 4294967296), by omega, by go_num, rfl, Hq.out, by rw [List.length_set]; exact Hol.out, q1e Hlim.out (Nat.mod_lt _ (by omega)), Hblk.out.set_ _ _, Hst.out, Hb.out.setCell (p := ⟨w.heap.size, k, none⟩) (Nat.le_refl _) _⟩
    case measure => simp [intOf]; omega
   ·have hy0 : l2[k]?.getD 0 = 0 := (by rw [List.getElem?_eq_none (by omega)]; rfl);rw [hy0] at Hst Hq;clear hy0 hy2;generalize l1[k]?.getD 0 = x at *;go_wp2_with fail
    refine (add32_any x 0 cr hx2 (by omega) hcr _).mono ?_;rintro e w1 ⟨rfl, rfl⟩;go_wp2
    go_roundw
    case rel => exact ⟨k + 1, _, o.set k ((x + 0 + cr) % 4294967296), by omega, by go_num, rfl, Hq.out, by rw [List.length_set]; exact Hol.out, q1e Hlim.out (Nat.mod_lt _ (by omega)), Hblk.out.set_ _ _, Hst.out, Hb.out.setCell (p := ⟨w.heap.size, k, none⟩) (Nat.le_refl _) _⟩
    case measure => simp [intOf]; omega
  ·obtain rfl : k = l1.length := by omega
   have hcell : wr.cell? ⟨w.heap.size, l1.length, none⟩ = some (.int .u32 (o[l1.length]?.getD 0 : Nat)) := Hblk.out.cell (by rw [Hol.out]; omega);have hfr : wr.frozen? ⟨w.heap.size, l1.length, none⟩ = false := Hblk.out.frozen _;have Hfin := lh (plus_end (by rw [Hol.out]; omega) Hol.out (Nat.le_refl _) hle Hsum.out);have hblk2 := Hblk.out.set_ l1.length cr;have Hl2 : Hid ((o.set l1.length cr).length = l1.length + 1) := (by unfold Hid; rw [List.length_set]; exact Hol.out);have Hr2 := lh hblk2.rd;clear hblk2;go_wp2
   go_ret
   exact ⟨_, l1.length + 1, o.set l1.length cr, by rw [Hl2.out]; rfl, ⟨Hr2.out, q1e Hlim.out (by omega), by rw [Hl2.out]; exact Nat.le_refl _, by rw [Hl2.out]; omega⟩, Hfin.out, by rw [Hl2.out]; exact Nat.le_refl _, Hb.out.setCell (p := ⟨w.heap.size, l1.length, none⟩) (Nat.le_refl _) _⟩
theorem plus_lt (A1 A2 : Option Addr) (l1 l2 : List Nat) (c1 c2 : Nat) (w : World) (hs1 : Sl w A1 l1 c1) (hs2 : Sl w A2 l2 c2) (hlt0 : l1.length < l2.length) (hlen : l2.length ≤ 1000000) :
  Calls Tryz.prog 194 #[.slice A1 l1.length c1, .slice A2 l2.length c2] w (VRes (val l1 + val l2) (l2.length + 1) w) := by
 obtain ⟨i0, hi, hz0, hz1, hz2⟩ := info_parts q2q;have hmk := fun W => q1a (P := Tryz.prog) 63 187 i0 Tryz.underlying63 hi hz0 hz1 hz2 ((l2.length : Int) + 1) ((l2.length : Int) + 1) (l2.length + 1) (l2.length + 1) (by omega) (by omega) (Nat.le_refl _) (by omega) W;have hle : l1.length ≤ l2.length := (by omega);have Hs1 := lh hs1;have Hs2 := lh hs2;clear hs1 hs2 hi hz0 hz1 hz2;have hdec : decide (l1.length < l2.length) = true := (by rw [decide_eq_true_iff]; omega);go_enter Tryz.func194, Tryz.ntmps194
 go_wp2
 go_loopw [6, 7, 8, 9, 23] (fun cy _ _ _ i wr => ∃ (k cr : Nat) (o : List Nat), k ≤ l2.length ∧ i = .int .i64 k ∧ cy = .int .u32 cr ∧ cr ≤ 1 ∧ o.length = l2.length + 1 ∧ Lim o ∧ Blk wr w.heap.size 187 o ∧ pv o k + cr * 4294967296 ^ k = pv l2 k + pv l1 k ∧ Below w.heap.size w wr) (fun _ _ _ _ i _ => l2.length - (intOf i).toNat)
 case atStart => exact ⟨0, 0, List.replicate (l2.length + 1) 0, Nat.zero_le _, rfl, rfl, by omega, by simp, q0n _, Blk.zrow _ _ _, by simp [q1m], blw1 _ _⟩
 case round =>
  obtain ⟨k, cr, o, hk, rfl, rfl, hcr, hol, holim, hblk, hsum, hb⟩ := hrel;have Hol := lh hol;have Hlim := lh holim;have Hblk := lh hblk;have Hsum := lh hsum;have Hb := lh hb;clear hol holim hblk hsum hb;by_cases hlt : k < l2.length
  ·obtain ⟨b1, o1, rfl, hx1⟩ := (Hs2.out.below Hb.out).rd.at_ (k := k) hlt;have hx2 := q0h Hs2.out.lim k;have hy2 := q0h Hs1.out.lim k;have hcell : wr.cell? ⟨w.heap.size, k, none⟩ = some (.int .u32 (o[k]?.getD 0 : Nat)) := Hblk.out.cell (by rw [Hol.out]; omega);have hfr : wr.frozen? ⟨w.heap.size, k, none⟩ = false := Hblk.out.frozen k;have Hst := lh (plus_step (by rw [Hol.out]; omega) Hsum.out);have Hq : Hid ((l2[k]?.getD 0 + l1[k]?.getD 0 + cr) / 4294967296 ≤ 1) := (by unfold Hid; omega);by_cases hlt2 : k < l1.length
   ·obtain ⟨b2, o2, rfl, hy1⟩ := (Hs1.out.below Hb.out).rd.at_ (k := k) hlt2;generalize l2[k]?.getD 0 = x at *;generalize l1[k]?.getD 0 = y at *;go_wp2_with fail
    refine (add32_any x y cr hx2 hy2 hcr _).mono ?_;rintro e w1 ⟨rfl, rfl⟩;go_wp2
    go_roundw
    case rel => exact ⟨k + 1, _, o.set k ((x + y + cr) % 4294967296), by omega, by go_num, rfl, Hq.out, by rw [List.length_set]; exact Hol.out, q1e Hlim.out (Nat.mod_lt _ (by omega)), Hblk.out.set_ _ _, Hst.out, Hb.out.setCell (p := ⟨w.heap.size, k, none⟩) (Nat.le_refl _) _⟩
    case measure => simp [intOf]; omega
   ·have hy0 : l1[k]?.getD 0 = 0 := (by rw [List.getElem?_eq_none (by omega)]; rfl);rw [hy0] at Hst Hq;clear hy0 hy2;generalize l2[k]?.getD 0 = x at *;go_wp2_with fail
    refine (add32_any x 0 cr hx2 (by omega) hcr _).mono ?_;rintro e w1 ⟨rfl, rfl⟩;go_wp2
    go_roundw
    case rel => exact ⟨k + 1, _, o.set k ((x + 0 + cr) % 4294967296), by omega, by go_num, rfl, Hq.out, by rw [List.length_set]; exact Hol.out, q1e Hlim.out (Nat.mod_lt _ (by omega)), Hblk.out.set_ _ _, Hst.out, Hb.out.setCell (p := ⟨w.heap.size, k, none⟩) (Nat.le_refl _) _⟩
    case measure => simp [intOf]; omega
  ·obtain rfl : k = l2.length := by omega
   have hcell : wr.cell? ⟨w.heap.size, l2.length, none⟩ = some (.int .u32 (o[l2.length]?.getD 0 : Nat)) := Hblk.out.cell (by rw [Hol.out]; omega);have hfr : wr.frozen? ⟨w.heap.size, l2.length, none⟩ = false := Hblk.out.frozen _;have Hfin := lh (plus_end (by rw [Hol.out]; omega) Hol.out (Nat.le_refl _) hle Hsum.out);have hblk2 := Hblk.out.set_ l2.length cr;have Hl2 : Hid ((o.set l2.length cr).length = l2.length + 1) := (by unfold Hid; rw [List.length_set]; exact Hol.out);have Hr2 := lh hblk2.rd;clear hblk2;go_wp2
   go_ret
   exact ⟨_, l2.length + 1, o.set l2.length cr, by rw [Hl2.out]; rfl, ⟨Hr2.out, q1e Hlim.out (by omega), by rw [Hl2.out]; exact Nat.le_refl _, by rw [Hl2.out]; omega⟩, by rw [Hfin.out, Nat.add_comm], by rw [Hl2.out]; exact Nat.le_refl _, Hb.out.setCell (p := ⟨w.heap.size, l2.length, none⟩) (Nat.le_refl _) _⟩
theorem plus_any (A1 A2 : Option Addr) (l1 l2 : List Nat) (c1 c2 : Nat) (w : World) (hs1 : Sl w A1 l1 c1) (hs2 : Sl w A2 l2 c2) (h1 : l1.length ≤ 1000000) (h2 : l2.length ≤ 1000000) :
  Calls Tryz.prog 194 #[.slice A1 l1.length c1, .slice A2 l2.length c2] w (VRes (val l1 + val l2) (max l1.length l2.length + 1) w) := by
 by_cases h : l1.length < l2.length
 ·rw [Nat.max_eq_right (by omega)];exact plus_lt A1 A2 l1 l2 c1 c2 w hs1 hs2 h h2
 ·rw [Nat.max_eq_left (by omega)];exact plus_ge A1 A2 l1 l2 c1 c2 w hs1 hs2 (by omega) h1
end Go.Proofs.YtlekjkljajeodaaGreat
namespace Go.Proofs.YtlekjkljajeodaaGreat
open Lib renaming hid → lh
open Go.RowKit
theorem minus_any (A1 A2 : Option Addr) (l1 l2 : List Nat) (c1 c2 : Nat) (w : World) (hs1 : Sl w A1 l1 c1) (hs2 : Sl w A2 l2 c2) (hle : l2.length ≤ l1.length) (hlen : l1.length ≤ 1000000) (hval : val l2 ≤ val l1) :
  Calls Tryz.prog 195 #[.slice A1 l1.length c1, .slice A2 l2.length c2] w (VRes (val l1 - val l2) l1.length w) := by
 obtain ⟨i0, hi, hz0, hz1, hz2⟩ := info_parts q2q;have hmk := fun W => q1a (P := Tryz.prog) 63 187 i0 Tryz.underlying63 hi hz0 hz1 hz2 (l1.length : Int) (l1.length : Int) l1.length l1.length rfl rfl (Nat.le_refl _) (by omega) W;have Hs1 := lh hs1;have Hs2 := lh hs2;have Hval := lh hval;clear hs1 hs2 hi hz0 hz1 hz2 hval;go_enter Tryz.func195, Tryz.ntmps195
 go_wp2
 go_loopw [6, 7, 8, 9, 15] (fun cy _ _ _ i wr => ∃ (k cr : Nat) (o : List Nat), k ≤ l1.length ∧ i = .int .i64 k ∧ cy = .int .u32 cr ∧ cr ≤ 1 ∧ o.length = l1.length ∧ Lim o ∧ Blk wr w.heap.size 187 o ∧ pv o k + pv l2 k = pv l1 k + cr * 4294967296 ^ k ∧ Below w.heap.size w wr) (fun _ _ _ _ i _ => l1.length - (intOf i).toNat)
 case atStart => exact ⟨0, 0, List.replicate l1.length 0, Nat.zero_le _, rfl, rfl, by omega, by simp, q0n _, Blk.zrow _ _ _, by simp [q1m], blw1 _ _⟩
 case round =>
  obtain ⟨k, cr, o, hk, rfl, rfl, hcr, hol, holim, hblk, hsum, hb⟩ := hrel;have Hol := lh hol;have Hlim := lh holim;have Hblk := lh hblk;have Hsum := lh hsum;have Hb := lh hb;clear hol holim hblk hsum hb;by_cases hlt : k < l1.length
  ·obtain ⟨b1, o1, rfl, hx1⟩ := (Hs1.out.below Hb.out).rd.at_ (k := k) hlt;have hx2 := q0h Hs1.out.lim k;have hy2 := q0h Hs2.out.lim k;have hcell : wr.cell? ⟨w.heap.size, k, none⟩ = some (.int .u32 (o[k]?.getD 0 : Nat)) := Hblk.out.cell (by rw [Hol.out]; omega);have hfr : wr.frozen? ⟨w.heap.size, k, none⟩ = false := Hblk.out.frozen k;have Hst := lh (minus_step (o := o) (by rw [Hol.out]; omega) (sub_eq hx2 hy2 hcr) Hsum.out);have Hq : Hid (subB (l1[k]?.getD 0) (l2[k]?.getD 0) cr ≤ 1) := (by unfold Hid subB; split <;> omega);by_cases hlt2 : k < l2.length
   ·obtain ⟨b2, o2, rfl, hy1⟩ := (Hs2.out.below Hb.out).rd.at_ (k := k) hlt2;generalize l1[k]?.getD 0 = x at *;generalize l2[k]?.getD 0 = y at *;go_wp2_with fail
    refine (sub32_any x y cr hx2 hy2 hcr _).mono ?_;rintro e w1 ⟨rfl, rfl⟩;go_wp2
    go_roundw
    case rel => exact ⟨k + 1, _, o.set k ((x + 8589934592 - y - cr) % 4294967296), by omega, by go_num, rfl, Hq.out, by rw [List.length_set]; exact Hol.out, q1e Hlim.out (Nat.mod_lt _ (by omega)), Hblk.out.set_ _ _, Hst.out, Hb.out.setCell (p := ⟨w.heap.size, k, none⟩) (Nat.le_refl _) _⟩
    case measure => simp [intOf]; omega
   ·have hy0 : l2[k]?.getD 0 = 0 := (by rw [List.getElem?_eq_none (by omega)]; rfl);rw [hy0] at Hst Hq;clear hy0 hy2;generalize l1[k]?.getD 0 = x at *;go_wp2_with fail
    refine (sub32_any x 0 cr hx2 (by omega) hcr _).mono ?_;rintro e w1 ⟨rfl, rfl⟩;go_wp2
    go_roundw
    case rel => exact ⟨k + 1, _, o.set k ((x + 8589934592 - 0 - cr) % 4294967296), by omega, by go_num, rfl, Hq.out, by rw [List.length_set]; exact Hol.out, q1e Hlim.out (Nat.mod_lt _ (by omega)), Hblk.out.set_ _ _, Hst.out, Hb.out.setCell (p := ⟨w.heap.size, k, none⟩) (Nat.le_refl _) _⟩
    case measure => simp [intOf]; omega
  ·obtain rfl : k = l1.length := by omega
   have Hfin := lh (minus_end Hol.out Hlim.out (Nat.le_refl _) hle Hval.out Hsum.out);have Hr2 := lh Hblk.out.rd;go_wp2
   go_ret
   exact ⟨_, l1.length, o, by rw [Hol.out]; rfl, ⟨Hr2.out, Hlim.out, by rw [Hol.out]; exact Nat.le_refl _, by rw [Hol.out]; omega⟩, Hfin.out, by rw [Hol.out]; exact Nat.le_refl _, Hb.out⟩
end Go.Proofs.YtlekjkljajeodaaGreat
namespace Go.Proofs.YtlekjkljajeodaaGreat
open Lib renaming hid → lh
open Go.RowKit
attribute [local go_sem ↓] Go.wp_at_zero Go.wp_at_succ
theorem add_any (n1 n2 : Bool) (A1 A2 : Option Addr) (l1 l2 : List Nat) (c1 c2 : Nat) (w : World) (hs1 : Sl w A1 l1 c1) (hs2 : Sl w A2 l2 c2) (k1 : Canon l1) (k2 : Canon l2) (hl1 : l1.length ≤ 10000) (hl2 : l2.length ≤ 10000) :
  Calls Tryz.prog 154 #[.agg #[.bool n1, .slice A1 l1.length c1], .agg #[.bool n2, .slice A2 l2.length c2]] w (WRes (outZ (zv n1 l1 + zv n2 l2)) w) := by
 have Hs1 := lh hs1;have Hs2 := lh hs2;have Hk1 := lh k1;have Hk2 := lh k2;clear hs1 hs2 k1 k2;generalize hr : outZ (zv n1 l1 + zv n2 l2) = r;by_cases hn : n1 = n2
 ·subst hn;have Hres : Hid (outN n1 (val l1 + val l2) = r) := (by unfold Hid; rw [← hr]; exact add_same _ _ _);have hbn : (n1 == n1) = true := beq_self_eq_true n1;clear hr;go_enter Tryz.func154, Tryz.ntmps154
  go_wp2_with fail
  refine (q2d _ _ _ _ _ _ _ (((Hs1.out.alloc _).alloc _).alloc _) (((Hs2.out.alloc _).alloc _).alloc _)).mono ?_;rintro e w1 ⟨rfl, hb⟩;have K1 : Hid (Cw w1 w.heap.size n1 A1 l1.length c1) := ⟨q0b hb (by go_simp), q0b hb (by go_simp)⟩;have K2 : Hid (Cw w1 (w.heap.size + 1) n1 A2 l2.length c2) := ⟨q0b hb (by go_simp), q0b hb (by go_simp)⟩;have R : Hid (Cw w1 (w.heap.size + 1 + 1) false none 0 0) := ⟨q0b hb (by go_simp), q0b hb (by go_simp)⟩;have F : Hid (Fw w1 (w.heap.size + 1 + 1)) := ⟨(hb.frozen (by simp <;> omega)).trans (by go_simp), (hb.frozen (by simp <;> omega)).trans (by go_simp)⟩;have B : Hid (Below w.heap.size w w1) := q0a (blw3 _ _ _ _) hb;have S1 : Hid (Sl w1 A1 l1 c1) := (((Hs1.out.alloc _).alloc _).alloc _).below hb;have S2 : Hid (Sl w1 A2 l2 c2) := (((Hs2.out.alloc _).alloc _).alloc _).below hb;clear hb;obtain ⟨q0, q1⟩ := K1.out;obtain ⟨q2, q3⟩ := K2.out;go_wp2
  have J0 := lh (And.intro K1.out.1 (And.intro K1.out.2 K2.out));clear q0 q1 q2 q3
  go_region_held3 (fun w' => w'.cell? ⟨w.heap.size, 0, none⟩ = some (.bool n1) ∧ w'.cell? ⟨w.heap.size, 1, none⟩ = some (.slice A1 l1.length c1) ∧ w'.cell? ⟨w.heap.size + 1, 0, none⟩ = some (.bool n1) ∧ w'.cell? ⟨w.heap.size + 1, 1, none⟩ = some (.slice A2 l2.length c2))
   (first | exact set4 J2.out (by omega) (by omega) _ _ | exact J2.out | exact J1.out | exact J0.out)
   (first
    | (go_at_call 194; refine (plus_any _ _ _ _ _ _ _ S1.out.drew S2.out.drew (by omega) (by omega)).mono ?_; rintro e v1 ⟨A5, c5, r5, rfl, hs5, hv5, hn5, hb5⟩; have Hs5 := lh hs5; have Hv5 := lh hv5; have J1 := lh (keep4 hb5 J0.out); have R1 := lh (Cw.keep R.out.drew hb5); have F1 := lh (Fw.keep F.out.drew R.out.drew hb5); have B1 := lh (q0a B.out.drew hb5); clear hb5)
    | (go_at_call 150; refine (q1w _ _ _ _ _ Hs5.out).mono ?_; rw [Hv5.out, Hres.out]; rintro e v2 ⟨A6, c6, rfl, hs6, hb6⟩; have Hs6 := lh hs6; have J2 := lh (keep4 hb6 J1.out); have B2 := lh (q0a B1.out hb6); obtain ⟨f0, f1⟩ := Fw.keep F1.out R1.out hb6; obtain ⟨r0, r1⟩ := Cw.keep R1.out hb6; clear hs6 hb6))
  go_wp2
  exact bodyPost_ret (v := .tuple #[.agg #[.bool r.1.1, .slice A6 r.1.2.length c6], .int .i64 r.2]) (by simp [results, Tryz.results154, go_sem, r0, r1]) rfl (q0j Hs6.out ⟨r0, r1⟩ B2.out (by omega) _ _)
 ·by_cases hv : val l2 ≤ val l1
  ·have Hres : Hid (outN n1 (val l1 - val l2) = r) := (by unfold Hid; rw [← hr]; exact add_ge hn hv);have hbn : (n1 == n2) = false := (by rw [beq_eq_false_iff_ne]; exact hn);have hc0 := cmpL_ge Hk1.out Hk2.out hv;have hll := q0y Hk2.out Hk1.out hv;have Hv := lh hv;clear hv;clear hr;go_enter Tryz.func154, Tryz.ntmps154
   go_wp2_with fail
   refine (q2d _ _ _ _ _ _ _ (((Hs1.out.alloc _).alloc _).alloc _) (((Hs2.out.alloc _).alloc _).alloc _)).mono ?_;rintro e w1 ⟨rfl, hb⟩;have K1 : Hid (Cw w1 w.heap.size n1 A1 l1.length c1) := ⟨q0b hb (by go_simp), q0b hb (by go_simp)⟩;have K2 : Hid (Cw w1 (w.heap.size + 1) n2 A2 l2.length c2) := ⟨q0b hb (by go_simp), q0b hb (by go_simp)⟩;have R : Hid (Cw w1 (w.heap.size + 1 + 1) false none 0 0) := ⟨q0b hb (by go_simp), q0b hb (by go_simp)⟩;have F : Hid (Fw w1 (w.heap.size + 1 + 1)) := ⟨(hb.frozen (by simp <;> omega)).trans (by go_simp), (hb.frozen (by simp <;> omega)).trans (by go_simp)⟩;have B : Hid (Below w.heap.size w w1) := q0a (blw3 _ _ _ _) hb;have S1 : Hid (Sl w1 A1 l1 c1) := (((Hs1.out.alloc _).alloc _).alloc _).below hb;have S2 : Hid (Sl w1 A2 l2 c2) := (((Hs2.out.alloc _).alloc _).alloc _).below hb;clear hb;obtain ⟨q0, q1⟩ := K1.out;obtain ⟨q2, q3⟩ := K2.out;go_wp2
   have J0 := lh (And.intro K1.out.1 (And.intro K1.out.2 K2.out));clear q0 q1 q2 q3
   go_region_held3 (fun w' => w'.cell? ⟨w.heap.size, 0, none⟩ = some (.bool n1) ∧ w'.cell? ⟨w.heap.size, 1, none⟩ = some (.slice A1 l1.length c1) ∧ w'.cell? ⟨w.heap.size + 1, 0, none⟩ = some (.bool n2) ∧ w'.cell? ⟨w.heap.size + 1, 1, none⟩ = some (.slice A2 l2.length c2))
    (first | exact set4 J2.out (by omega) (by omega) _ _ | exact J2.out | exact J1.out | exact J0.out)
    (first
     | (go_at_call 195; refine (minus_any _ _ _ _ _ _ _ S1.out.drew S2.out.drew hll (by omega) Hv.out).mono ?_; rintro e v1 ⟨A5, c5, r5, rfl, hs5, hv5, hn5, hb5⟩; have Hs5 := lh hs5; have Hv5 := lh hv5; have J1 := lh (keep4 hb5 J0.out); have R1 := lh (Cw.keep R.out.drew hb5); have F1 := lh (Fw.keep F.out.drew R.out.drew hb5); have B1 := lh (q0a B.out.drew hb5); clear hb5)
     | (go_at_call 150; refine (q1w _ _ _ _ _ Hs5.out).mono ?_; rw [Hv5.out, Hres.out]; rintro e v2 ⟨A6, c6, rfl, hs6, hb6⟩; have Hs6 := lh hs6; have J2 := lh (keep4 hb6 J1.out); have B2 := lh (q0a B1.out hb6); obtain ⟨f0, f1⟩ := Fw.keep F1.out R1.out hb6; obtain ⟨r0, r1⟩ := Cw.keep R1.out hb6; clear hs6 hb6))
   go_wp2
   exact bodyPost_ret (v := .tuple #[.agg #[.bool r.1.1, .slice A6 r.1.2.length c6], .int .i64 r.2]) (by simp [results, Tryz.results154, go_sem, r0, r1]) rfl (q0j Hs6.out ⟨r0, r1⟩ B2.out (by omega) _ _)
  ·have Hres : Hid (outN n2 (val l2 - val l1) = r) := (by unfold Hid; rw [← hr]; exact add_lt hn (by omega));have hbn : (n1 == n2) = false := (by rw [beq_eq_false_iff_ne]; exact hn);have Hcmp := lh (cmpL_lt Hk1.out Hk2.out (Nat.lt_of_not_le hv));have hll := q0y Hk1.out Hk2.out (by omega);have Hv : Hid (val l1 ≤ val l2) := (by unfold Hid; omega);clear hv;clear hr;go_enter Tryz.func154, Tryz.ntmps154
   go_wp2_with fail
   refine (q2d _ _ _ _ _ _ _ (((Hs1.out.alloc _).alloc _).alloc _) (((Hs2.out.alloc _).alloc _).alloc _)).mono ?_;rintro e w1 ⟨rfl, hb⟩;rw [Hcmp.out];have K1 : Hid (Cw w1 w.heap.size n1 A1 l1.length c1) := ⟨q0b hb (by go_simp), q0b hb (by go_simp)⟩;have K2 : Hid (Cw w1 (w.heap.size + 1) n2 A2 l2.length c2) := ⟨q0b hb (by go_simp), q0b hb (by go_simp)⟩;have R : Hid (Cw w1 (w.heap.size + 1 + 1) false none 0 0) := ⟨q0b hb (by go_simp), q0b hb (by go_simp)⟩;have F : Hid (Fw w1 (w.heap.size + 1 + 1)) := ⟨(hb.frozen (by simp <;> omega)).trans (by go_simp), (hb.frozen (by simp <;> omega)).trans (by go_simp)⟩;have B : Hid (Below w.heap.size w w1) := q0a (blw3 _ _ _ _) hb;have S1 : Hid (Sl w1 A1 l1 c1) := (((Hs1.out.alloc _).alloc _).alloc _).below hb;have S2 : Hid (Sl w1 A2 l2 c2) := (((Hs2.out.alloc _).alloc _).alloc _).below hb;clear hb;obtain ⟨q0, q1⟩ := K1.out;obtain ⟨q2, q3⟩ := K2.out;go_wp2
   have J0 := lh (And.intro K1.out.1 (And.intro K1.out.2 K2.out));clear q0 q1 q2 q3
   go_region_held3 (fun w' => w'.cell? ⟨w.heap.size, 0, none⟩ = some (.bool n1) ∧ w'.cell? ⟨w.heap.size, 1, none⟩ = some (.slice A1 l1.length c1) ∧ w'.cell? ⟨w.heap.size + 1, 0, none⟩ = some (.bool n2) ∧ w'.cell? ⟨w.heap.size + 1, 1, none⟩ = some (.slice A2 l2.length c2))
    (first | exact set4 J2.out (by omega) (by omega) _ _ | exact J2.out | exact J1.out | exact J0.out)
    (first
     | (go_at_call 195; refine (minus_any _ _ _ _ _ _ _ S2.out.drew S1.out.drew hll (by omega) Hv.out).mono ?_; rintro e v1 ⟨A5, c5, r5, rfl, hs5, hv5, hn5, hb5⟩; have Hs5 := lh hs5; have Hv5 := lh hv5; have J1 := lh (keep4 hb5 J0.out); have R1 := lh (Cw.keep R.out.drew hb5); have F1 := lh (Fw.keep F.out.drew R.out.drew hb5); have B1 := lh (q0a B.out.drew hb5); clear hb5)
     | (go_at_call 150; refine (q1w _ _ _ _ _ Hs5.out).mono ?_; rw [Hv5.out, Hres.out]; rintro e v2 ⟨A6, c6, rfl, hs6, hb6⟩; have Hs6 := lh hs6; have J2 := lh (keep4 hb6 J1.out); have B2 := lh (q0a B1.out hb6); obtain ⟨f0, f1⟩ := Fw.keep F1.out R1.out hb6; obtain ⟨r0, r1⟩ := Cw.keep R1.out hb6; clear hs6 hb6))
   go_wp2
   exact bodyPost_ret (v := .tuple #[.agg #[.bool r.1.1, .slice A6 r.1.2.length c6], .int .i64 r.2]) (by simp [results, Tryz.results154, go_sem, r0, r1]) rfl (q0j Hs6.out ⟨r0, r1⟩ B2.out (by omega) _ _)
end Go.Proofs.YtlekjkljajeodaaGreat
/- Walk: calib's Apply, where nothing is wrong but pixels. -/
import Derived.Test.YtlekjkljajeodaaGreatCal9
import Derived.Test.YtlekjkljajeodaaGreatCal7
import Derived.Test.YtlekjkljajeodaaGreatCalQ
import Derived.Deep.RegionHeld3
import Derived.BigQuiet
import Derived.Deep.QuietTactic
namespace Go.Proofs.YtlekjkljajeodaaGreat
open Go.RowKit
attribute [local go_sem ↓] Go.wp_at_zero Go.wp_at_succ
theorem prod_lim {a b : Int} {m n : Int} (ha : -m ≤ a ∧ a ≤ m) (hb : -n ≤ b ∧ b ≤ n) : -(m * n) ≤ a * b ∧ a * b ≤ m * n := by
  have hm : 0 ≤ m := by omega
  have hn : 0 ≤ n := by omega
  have h1 : a.natAbs ≤ m.natAbs := by omega
  have h2 : b.natAbs ≤ n.natAbs := by omega
  have h3 := Nat.mul_le_mul h1 h2
  rw [← Int.natAbs_mul, ← Int.natAbs_mul] at h3
  have h4 : 0 ≤ m * n := Int.mul_nonneg hm hn
  omega

theorem num_lim {r b d f E D : Int} (h1 : -4294967296 ≤ r ∧ r ≤ 4294967296) (h2 : -4294967296 ≤ b ∧ b ≤ 4294967296) (h3 : -4294967296 ≤ d ∧ d ≤ 4294967296) (h4 : -4294967296 ≤ f ∧ f ≤ 4294967296) (e0 : 0 ≤ E) (e1 : E ≤ 1000000) (d0 : 1 ≤ D) (d1 : D ≤ 1000000) :
    (-8589934592000000 ≤ (r - b) * D ∧ (r - b) * D ≤ 8589934592000000) ∧ (-4294967296000000 ≤ d * E ∧ d * E ≤ 4294967296000000) ∧ (-4294967296000000 ≤ D * f ∧ D * f ≤ 4294967296000000) := by
  have q1 := prod_lim (a := r - b) (b := D) (m := 8589934592) (n := 1000000) (by omega) (by omega)
  have q2 := prod_lim (a := d) (b := E) (m := 4294967296) (n := 1000000) (by omega) (by omega)
  have q3 := prod_lim (a := D) (b := f) (m := 1000000) (n := 4294967296) (by omega) (by omega)
  omega

theorem cpix_facts {E D : Int} {l1 l2 l3 l4 : List Int} {nr ns : Bool} {lr ls : List Nat} (hQ : redZ (sumP true l4) (cntP true l4) = ((nr, lr), (ns, ls)))
    (b1 : ∀ x ∈ l1, -4294967296 ≤ x ∧ x ≤ 4294967296) (b2 : ∀ x ∈ l2, -4294967296 ≤ x ∧ x ≤ 4294967296) (b3 : ∀ x ∈ l3, -4294967296 ≤ x ∧ x ≤ 4294967296) (b4 : ∀ x ∈ l4, -4294967296 ≤ x ∧ x ≤ 4294967296)
    (hl : l4.length ≤ 10000) (E0 : 0 ≤ E) (E1 : E ≤ 1000000) (D0 : 1 ≤ D) (D1 : D ≤ 1000000) (hn : cntP true l4 ≠ 0) :
    ∀ (gc k : Nat), 0 < l4.getD k 0 → ∃ p R : (Bool × List Nat) × (Bool × List Nat), (∀ (V : World) (x : Int), BlkV V gc 100 #[.int .i64 x] → Calls Tryz.prog 52 #[.pointer (some ⟨gc, 0, none⟩), .int .i64 ((l1.getD k 0 - l2.getD k 0) * D - l3.getD k 0 * E), .int .i64 (D * l4.getD k 0)] V (FRes1 p V)) ∧ (∀ (V : World) (x : Int) A5 A6 A7 A8 c5 c6 c7 c8, BlkV V gc 100 #[.int .i64 x] → Sl V A5 p.1.2 c5 → Sl V A6 p.2.2 c6 → Sl V A7 lr c7 → Sl V A8 ls c8 → Calls Tryz.prog 54 #[.pointer (some ⟨gc, 0, none⟩), .agg #[.bool p.1.1, .slice A5 p.1.2.length c5, .bool p.2.1, .slice A6 p.2.2.length c6], .agg #[.bool nr, .slice A7 lr.length c7, .bool ns, .slice A8 ls.length c8]] V (FRes1 R V)) ∧ (∀ (V : World) (x : Int) A5 A6 c5 c6, BlkV V gc 100 #[.int .i64 x] → Sl V A5 R.1.2 c5 → Sl V A6 R.2.2 c6 → Calls Tryz.prog 53 #[.pointer (some ⟨gc, 0, none⟩), .agg #[.bool R.1.1, .slice A5 R.1.2.length c5, .bool R.2.1, .slice A6 R.2.2.length c6]] V fun e V' => e = .returned (.int .i64 (pixV (zAt E D l1 l2 l3 l4 k))) ∧ St gc x (nte x (pixE (zAt E D l1 l2 l3 l4 k))) V V') := by
  intro gc k hk
  have h1 := getD_bd b1 k
  have h2 := getD_bd b2 k
  have h3 := getD_bd b3 k
  have h4 := getD_bd b4 k
  have hs := sumP_bd true l4 b4
  have hs0 := sumP_pos hn
  have hc := cntP_bd true l4
  have hnm := num_lim h1 h2 h3 h4 E0 E1 D0 D1
  have hDf : 0 < D * l4.getD k 0 := Int.mul_pos (by omega) hk
  obtain ⟨-, Q, R, -, -, -, p1, z, -, hQ', hp1, -, -, -, -, hm, hz, hr, fz, hfit⟩ := calib_facts h1.1 h1.2 h2.1 h2.2 h3.1 h3.2 hk h4.2 E0 E1 D0 D1 hs0 (by omega) (by omega : 0 < cntP true l4) (by omega)
  rw [hQ] at hQ'; subst hQ'
  have hz' : z = zAt E D l1 l2 l3 l4 k := hz
  subst hz'
  refine ⟨p1, R, fun V x hc => ?_, fun V x A5 A6 A7 A8 c5 c6 c7 c8 hc s5 s6 s7 s8 => cmul_any gc x _ _ _ _ A5 A6 A7 A8 _ _ _ _ c5 c6 c7 c8 R hm V hc s5 s6 s7 s8,
    fun V x A5 A6 c5 c6 hc s5 s6 => cpixel_any gc x _ _ A5 A6 _ _ c5 c6 _ hr fz hfit V hc s5 s6⟩
  have q := cof_any gc x ((l1.getD k 0 - l2.getD k 0) * D - l3.getD k 0 * E) (D * l4.getD k 0) (by omega) (by omega) (by omega) (by omega) (by omega) V hc
  rwa [hp1] at q

set_option maxRecDepth 100000 in
set_option maxHeartbeats 8000000 in
theorem cap_main (W H : Int) (A1 A2 A3 A4 : Option Addr) (l1 l2 l3 l4 : List Int) (c1 c2 c3 c4 : Nat) (E D : Int) (B : Nat) (w : World) (ok1 : OkD w B ⟨W, H, A1, l1, c1⟩) (ok2 : OkD w B ⟨W, H, A2, l2, c2⟩) (ok3 : OkD w B ⟨W, H, A3, l3, c3⟩) (ok4 : OkD w B ⟨W, H, A4, l4, c4⟩) (h : ApOk ⟨W, H, A1, l1, c1⟩ ⟨W, H, A2, l2, c2⟩ ⟨W, H, A3, l3, c3⟩ ⟨W, H, A4, l4, c4⟩ E D) :
    Calls Tryz.prog 12 #[.agg #[.int .i64 W, .int .i64 H, .slice A1 l1.length c1], .agg #[.int .i64 W, .int .i64 H, .slice A2 l2.length c2], .agg #[.int .i64 W, .int .i64 H, .slice A3 l3.length c3], .agg #[.int .i64 W, .int .i64 H, .slice A4 l4.length c4], .int .i64 E, .int .i64 D] w (ApR (if cntP true l4 = 0 then (⟨0, 0, [], [], 18⟩ : ApOut) else if erL E D l1 l2 l3 l4 l1.length = true then ⟨0, 0, [], [], 16⟩ else ⟨W, H, pxL E D l1 l2 l3 l4 l1.length, bdL l4 l1.length, 0⟩) w) := by
  generalize hres : (if cntP true l4 = 0 then (⟨0, 0, [], [], 18⟩ : ApOut) else if erL E D l1 l2 l3 l4 l1.length = true then ⟨0, 0, [], [], 16⟩ else ⟨W, H, pxL E D l1 l2 l3 l4 l1.length, bdL l4 l1.length, 0⟩) = res
  replace hres := Lib.hid hres
  have hv : Hid (vchk ([⟨W, H, A1, l1, c1⟩, ⟨W, H, A2, l2, c2⟩, ⟨W, H, A3, l3, c3⟩, ⟨W, H, A4, l4, c4⟩] : List FD) = 0) := vchk40 h.c1 h.c2 h.c3 h.c4
  have ha : Hid (alikeB ⟨W, H, A1, l1, c1⟩ ([⟨W, H, A1, l1, c1⟩, ⟨W, H, A2, l2, c2⟩, ⟨W, H, A3, l3, c3⟩, ⟨W, H, A4, l4, c4⟩] : List FD) = true) := by rw [Hid, ali4, h.a2, h.a3, h.a4]; rfl
  obtain ⟨hb1, hl1⟩ := fchk_lim h.c1
  obtain ⟨hb2, -⟩ := fchk_lim h.c2
  obtain ⟨hb3, -⟩ := fchk_lim h.c3
  obtain ⟨hb4, hl4⟩ := fchk_lim h.c4
  have e2 := ali_len h.c1 h.c2 h.a2
  have e3 := ali_len h.c1 h.c3 h.a3
  have e4 := ali_len h.c1 h.c4 h.a4
  dsimp only at hb1 hb2 hb3 hb4 hl1 hl4 e2 e3 e4
  have he0 := h.e0
  have he1 := h.e1
  have hd0 := h.d0
  have hd1 := h.d1
  have u0 : decide (E < 0) = false := decide_eq_false (by omega)
  have u1 : decide (1000000 < E) = false := decide_eq_false (by omega)
  have u2 : decide (D < 1) = false := decide_eq_false (by omega)
  have u3 : decide (1000000 < D) = false := decide_eq_false (by omega)
  have hNL : Hid (∀ k, (-8589934592000000 ≤ (l1.getD k 0 - l2.getD k 0) * D ∧ (l1.getD k 0 - l2.getD k 0) * D ≤ 8589934592000000) ∧ (-4294967296000000 ≤ l3.getD k 0 * E ∧ l3.getD k 0 * E ≤ 4294967296000000) ∧ (-4294967296000000 ≤ D * l4.getD k 0 ∧ D * l4.getD k 0 ≤ 4294967296000000)) := fun k => num_lim (getD_bd hb1 k) (getD_bd hb2 k) (getD_bd hb3 k) (getD_bd hb4 k) he0 he1 hd0 hd1
  obtain ⟨⟨⟨nr, lr⟩, ⟨ns, ls⟩⟩, hQ⟩ : ∃ Q, redZ (sumP true l4) (cntP true l4) = Q := ⟨_, rfl⟩
  have hX : Hid (cntP true l4 ≠ 0 → ∀ (gc k : Nat), 0 < l4.getD k 0 → ∃ p R : (Bool × List Nat) × (Bool × List Nat), (∀ (V : World) (x : Int), BlkV V gc 100 #[.int .i64 x] → Calls Tryz.prog 52 #[.pointer (some ⟨gc, 0, none⟩), .int .i64 ((l1.getD k 0 - l2.getD k 0) * D - l3.getD k 0 * E), .int .i64 (D * l4.getD k 0)] V (FRes1 p V)) ∧ (∀ (V : World) (x : Int) A5 A6 A7 A8 c5 c6 c7 c8, BlkV V gc 100 #[.int .i64 x] → Sl V A5 p.1.2 c5 → Sl V A6 p.2.2 c6 → Sl V A7 lr c7 → Sl V A8 ls c8 → Calls Tryz.prog 54 #[.pointer (some ⟨gc, 0, none⟩), .agg #[.bool p.1.1, .slice A5 p.1.2.length c5, .bool p.2.1, .slice A6 p.2.2.length c6], .agg #[.bool nr, .slice A7 lr.length c7, .bool ns, .slice A8 ls.length c8]] V (FRes1 R V)) ∧ (∀ (V : World) (x : Int) A5 A6 c5 c6, BlkV V gc 100 #[.int .i64 x] → Sl V A5 R.1.2 c5 → Sl V A6 R.2.2 c6 → Calls Tryz.prog 53 #[.pointer (some ⟨gc, 0, none⟩), .agg #[.bool R.1.1, .slice A5 R.1.2.length c5, .bool R.2.1, .slice A6 R.2.2.length c6]] V fun e V' => e = .returned (.int .i64 (pixV (zAt E D l1 l2 l3 l4 k))) ∧ St gc x (nte x (pixE (zAt E D l1 l2 l3 l4 k))) V V')) := fun hn => cpix_facts hQ hb1 hb2 hb3 hb4 hl4 he0 he1 hd0 hd1 hn
  have hs := sumP_bd true l4 hb4
  have hc := cntP_bd true l4
  have hO1 : Hid (cntP true l4 ≠ 0 → ∀ g V, BlkV V g 100 #[.int .i64 0] → Calls Tryz.prog 52 #[.pointer (some ⟨g, 0, none⟩), .int .i64 (sumP true l4), .int .i64 (cntP true l4)] V (FRes1 ((nr, lr), (ns, ls)) V)) := fun hn g V k => by have q := cof_any g 0 (sumP true l4) (cntP true l4) (by omega) (by omega) (by omega) (by omega) hn V k; rwa [hQ] at q
  have HB1 := Lib.hid hb1
  have HB2 := Lib.hid hb2
  have HB3 := Lib.hid hb3
  have HB4 := Lib.hid hb4
  clear hQ hs hc hb1 hb2 hb3 hb4 hl4 h he0 he1 hd0 hd1
  replace e2 := Lib.hid e2
  replace e3 := Lib.hid e3
  replace e4 := Lib.hid e4
  replace hl1 := Lib.hid hl1
  obtain ⟨ib, hib, hib0, hib1, hib2⟩ := info_parts (show (Tryz.prog.info? 4).map (fun i => (i.zero, i.size, i.bytes)) = some (some (.bool false), 1, 1) by kernel_rfl)
  obtain ⟨ii, hii, hii0, hii1, hii2⟩ := info_parts (show (Tryz.prog.info? 2).map (fun i => (i.zero, i.size, i.bytes)) = some (some (.int .i64 0), 1, 8) by kernel_rfl)
  have mkI : ∀ V, (Instr.makeSlice 22 (.int .i64 l1.length) (.int .i64 l1.length)).run Tryz.prog V = .ok (.slice (some ⟨V.heap.size, 0, none⟩) l1.length l1.length) (V.alloc (.cells (Array.replicate l1.length (.int .i64 0)) 2)) := fun V => run_makeV 22 2 ii (.int .i64 0) 8 Tryz.underlying22 hii hii0 rfl hii1 hii2 _ _ l1.length rfl rfl (by have := hl1.out; omega) (by have := hl1.out; omega) V
  have mkB : ∀ V, (Instr.makeSlice 27 (.int .i64 l1.length) (.int .i64 l1.length)).run Tryz.prog V = .ok (.slice (some ⟨V.heap.size, 0, none⟩) l1.length l1.length) (V.alloc (.cells (Array.replicate l1.length (.bool false)) 4)) := fun V => run_makeV 27 4 ib (.bool false) 1 Tryz.underlying27 hib hib0 rfl hib1 hib2 _ _ l1.length rfl rfl (by have := hl1.out; omega) (by have := hl1.out; omega) V
  clear hii hii0 hii1 hii2 hib hib0 hib1 hib2
  replace u0 := u0
  replace ok1 := Lib.hid ok1
  replace ok2 := Lib.hid ok2
  replace ok3 := Lib.hid ok3
  replace ok4 := Lib.hid ok4
  go_enter Tryz.func12, Tryz.ntmps12
  go_wp2_with (fail)
  generalize hwz : ((((w.alloc (.cells #[.int .i64 W, .int .i64 H, .slice A1 l1.length c1] 24)).alloc (.cells #[.int .i64 W, .int .i64 H, .slice A2 l2.length c2] 24)).alloc (.cells #[.int .i64 W, .int .i64 H, .slice A3 l3.length c3] 24)).alloc (.cells #[.int .i64 W, .int .i64 H, .slice A4 l4.length c4] 24)).alloc (.cells #[.int .i64 0, .int .i64 0, .slice none 0 0] 24) = wz at *
  have K0 : Hid (BlkV wz (w.heap.size) 24 #[.int .i64 W, .int .i64 H, .slice A1 l1.length c1]) := by rw [← hwz]; exact ((((BlkV.fresh (by simp) _ _).alloc _).alloc _).alloc _).alloc _
  have K1 : Hid (BlkV wz (w.heap.size + 1) 24 #[.int .i64 W, .int .i64 H, .slice A2 l2.length c2]) := by rw [← hwz]; exact (((BlkV.fresh (by simp) _ _).alloc _).alloc _).alloc _
  have K2 : Hid (BlkV wz (w.heap.size + 2) 24 #[.int .i64 W, .int .i64 H, .slice A3 l3.length c3]) := by rw [← hwz]; exact ((BlkV.fresh (by simp) _ _).alloc _).alloc _
  have K3 : Hid (BlkV wz (w.heap.size + 3) 24 #[.int .i64 W, .int .i64 H, .slice A4 l4.length c4]) := by rw [← hwz]; exact (BlkV.fresh (by simp) _ _).alloc _
  have K4 : Hid (BlkV wz (w.heap.size + 4) 24 #[.int .i64 0, .int .i64 0, .slice none 0 0]) := by rw [← hwz]; exact BlkV.fresh (by simp) _ _
  have HB : Hid (Below w.heap.size w wz) := by rw [← hwz]; exact blw5 _ _ _ _ _ _
  have O1 : Hid (OkD wz B ⟨W, H, A1, l1, c1⟩) := by rw [← hwz]; exact OkD.below ok1.out (blw5 _ _ _ _ _ _)
  have O2 : Hid (OkD wz B ⟨W, H, A2, l2, c2⟩) := by rw [← hwz]; exact OkD.below ok2.out (blw5 _ _ _ _ _ _)
  have O3 : Hid (OkD wz B ⟨W, H, A3, l3, c3⟩) := by rw [← hwz]; exact OkD.below ok3.out (blw5 _ _ _ _ _ _)
  have O4 : Hid (OkD wz B ⟨W, H, A4, l4, c4⟩) := by rw [← hwz]; exact OkD.below ok4.out (blw5 _ _ _ _ _ _)
  have hsz : w.heap.size + 1 + 1 + 1 + 1 + 1 = wz.heap.size := by rw [← hwz]; simp
  clear hwz
  have q00 : wz.cell? ⟨w.heap.size, 0, none⟩ = some (.int .i64 W) := K0.out.at_ 0 rfl
  have q01 : wz.cell? ⟨w.heap.size, 1, none⟩ = some (.int .i64 H) := K0.out.at_ 1 rfl
  have q02 : wz.cell? ⟨w.heap.size, 2, none⟩ = some (.slice A1 l1.length c1) := K0.out.at_ 2 rfl
  have q10 : wz.cell? ⟨w.heap.size + 1, 0, none⟩ = some (.int .i64 W) := K1.out.at_ 0 rfl
  have q11 : wz.cell? ⟨w.heap.size + 1, 1, none⟩ = some (.int .i64 H) := K1.out.at_ 1 rfl
  have q12 : wz.cell? ⟨w.heap.size + 1, 2, none⟩ = some (.slice A2 l2.length c2) := K1.out.at_ 2 rfl
  have q20 : wz.cell? ⟨w.heap.size + 2, 0, none⟩ = some (.int .i64 W) := K2.out.at_ 0 rfl
  have q21 : wz.cell? ⟨w.heap.size + 2, 1, none⟩ = some (.int .i64 H) := K2.out.at_ 1 rfl
  have q22 : wz.cell? ⟨w.heap.size + 2, 2, none⟩ = some (.slice A3 l3.length c3) := K2.out.at_ 2 rfl
  have q30 : wz.cell? ⟨w.heap.size + 3, 0, none⟩ = some (.int .i64 W) := K3.out.at_ 0 rfl
  have q31 : wz.cell? ⟨w.heap.size + 3, 1, none⟩ = some (.int .i64 H) := K3.out.at_ 1 rfl
  have q32 : wz.cell? ⟨w.heap.size + 3, 2, none⟩ = some (.slice A4 l4.length c4) := K3.out.at_ 2 rfl
  have SD : Hid (SlD (wz.alloc (.cells #[.int .i64 W, .int .i64 H, .slice A1 l1.length c1, .int .i64 W, .int .i64 H, .slice A2 l2.length c2, .int .i64 W, .int .i64 H, .slice A3 l3.length c3, .int .i64 W, .int .i64 H, .slice A4 l4.length c4] 24)) (wz.alloc (.cells #[.int .i64 W, .int .i64 H, .slice A1 l1.length c1, .int .i64 W, .int .i64 H, .slice A2 l2.length c2, .int .i64 W, .int .i64 H, .slice A3 l3.length c3, .int .i64 W, .int .i64 H, .slice A4 l4.length c4] 24)).heap.size (some ⟨w.heap.size + 1 + 1 + 1 + 1 + 1, 0, none⟩) [⟨W, H, A1, l1, c1⟩, ⟨W, H, A2, l2, c2⟩, ⟨W, H, A3, l3, c3⟩, ⟨W, H, A4, l4, c4⟩] 4) := sld4 (BlkV.fresh hsz _ _) (O1.out.below (blw1 _ _)) (O2.out.below (blw1 _ _)) (O3.out.below (blw1 _ _)) (O4.out.below (blw1 _ _))
  clear hsz
  refine (valid_any _ [⟨W, H, A1, l1, c1⟩, ⟨W, H, A2, l2, c2⟩, ⟨W, H, A3, l3, c3⟩, ⟨W, H, A4, l4, c4⟩] 4 _ _ SD.out).mono ?_
  rw [hv.out]
  rintro e w1 ⟨rfl, hb'⟩
  have hb := below_mono (blw1 _ _) hb'
  clear hb' SD
  clear q00 q01 q02 q10 q11 q12 q20 q21 q22 q30 q31 q32
  replace O1 := Lib.hid (O1.out.below hb)
  replace O2 := Lib.hid (O2.out.below hb)
  replace O3 := Lib.hid (O3.out.below hb)
  replace O4 := Lib.hid (O4.out.below hb)
  replace K0 := Lib.hid (K0.out.keep hb)
  replace K1 := Lib.hid (K1.out.keep hb)
  replace K2 := Lib.hid (K2.out.keep hb)
  replace K3 := Lib.hid (K3.out.keep hb)
  replace K4 := Lib.hid (K4.out.keep hb)
  replace HB := Lib.hid (below_mono HB.out hb)
  clear hb
  have q00 : w1.cell? ⟨w.heap.size, 0, none⟩ = some (.int .i64 W) := K0.out.at_ 0 rfl
  have q01 : w1.cell? ⟨w.heap.size, 1, none⟩ = some (.int .i64 H) := K0.out.at_ 1 rfl
  have q02 : w1.cell? ⟨w.heap.size, 2, none⟩ = some (.slice A1 l1.length c1) := K0.out.at_ 2 rfl
  have q10 : w1.cell? ⟨w.heap.size + 1, 0, none⟩ = some (.int .i64 W) := K1.out.at_ 0 rfl
  have q11 : w1.cell? ⟨w.heap.size + 1, 1, none⟩ = some (.int .i64 H) := K1.out.at_ 1 rfl
  have q12 : w1.cell? ⟨w.heap.size + 1, 2, none⟩ = some (.slice A2 l2.length c2) := K1.out.at_ 2 rfl
  have q20 : w1.cell? ⟨w.heap.size + 2, 0, none⟩ = some (.int .i64 W) := K2.out.at_ 0 rfl
  have q21 : w1.cell? ⟨w.heap.size + 2, 1, none⟩ = some (.int .i64 H) := K2.out.at_ 1 rfl
  have q22 : w1.cell? ⟨w.heap.size + 2, 2, none⟩ = some (.slice A3 l3.length c3) := K2.out.at_ 2 rfl
  have q30 : w1.cell? ⟨w.heap.size + 3, 0, none⟩ = some (.int .i64 W) := K3.out.at_ 0 rfl
  have q31 : w1.cell? ⟨w.heap.size + 3, 1, none⟩ = some (.int .i64 H) := K3.out.at_ 1 rfl
  have q32 : w1.cell? ⟨w.heap.size + 3, 2, none⟩ = some (.slice A4 l4.length c4) := K3.out.at_ 2 rfl
  have SD : Hid (SlD (w1.alloc (.cells #[.int .i64 W, .int .i64 H, .slice A1 l1.length c1, .int .i64 W, .int .i64 H, .slice A2 l2.length c2, .int .i64 W, .int .i64 H, .slice A3 l3.length c3, .int .i64 W, .int .i64 H, .slice A4 l4.length c4] 24)) (w1.alloc (.cells #[.int .i64 W, .int .i64 H, .slice A1 l1.length c1, .int .i64 W, .int .i64 H, .slice A2 l2.length c2, .int .i64 W, .int .i64 H, .slice A3 l3.length c3, .int .i64 W, .int .i64 H, .slice A4 l4.length c4] 24)).heap.size (some ⟨w1.heap.size, 0, none⟩) [⟨W, H, A1, l1, c1⟩, ⟨W, H, A2, l2, c2⟩, ⟨W, H, A3, l3, c3⟩, ⟨W, H, A4, l4, c4⟩] 4) := sld4 (BlkV.fresh rfl _ _) (O1.out.below (blw1 _ _)) (O2.out.below (blw1 _ _)) (O3.out.below (blw1 _ _)) (O4.out.below (blw1 _ _))
  have hzs : w.heap.size < w1.heap.size ∧ w.heap.size + 1 < w1.heap.size ∧ w.heap.size + 2 < w1.heap.size ∧ w.heap.size + 3 < w1.heap.size ∧ w.heap.size + 4 < w1.heap.size := ⟨K0.out.lt, K1.out.lt, K2.out.lt, K3.out.lt, K4.out.lt⟩
  obtain ⟨hs0, hs1, hs2, hs3, hs4⟩ := hzs
  go_wp2_with fail
  refine (alike_any _ ⟨W, H, A1, l1, c1⟩ [⟨W, H, A2, l2, c2⟩, ⟨W, H, A3, l3, c3⟩, ⟨W, H, A4, l4, c4⟩] 4 _ _ SD.out).mono ?_
  rw [ha.out]
  rintro e w2 ⟨rfl, hb'⟩
  have hb := below_mono (blw1 _ _) hb'
  clear hb' SD hs0 hs1 hs2 hs3 hs4
  clear q00 q01 q02 q10 q11 q12 q20 q21 q22 q30 q31 q32
  replace O1 := Lib.hid (O1.out.below hb)
  replace O2 := Lib.hid (O2.out.below hb)
  replace O3 := Lib.hid (O3.out.below hb)
  replace O4 := Lib.hid (O4.out.below hb)
  replace K0 := Lib.hid (K0.out.keep hb)
  replace K1 := Lib.hid (K1.out.keep hb)
  replace K2 := Lib.hid (K2.out.keep hb)
  replace K3 := Lib.hid (K3.out.keep hb)
  replace K4 := Lib.hid (K4.out.keep hb)
  replace HB := Lib.hid (below_mono HB.out hb)
  clear hb
  have q00 : w2.cell? ⟨w.heap.size, 0, none⟩ = some (.int .i64 W) := K0.out.at_ 0 rfl
  have q01 : w2.cell? ⟨w.heap.size, 1, none⟩ = some (.int .i64 H) := K0.out.at_ 1 rfl
  have q02 : w2.cell? ⟨w.heap.size, 2, none⟩ = some (.slice A1 l1.length c1) := K0.out.at_ 2 rfl
  have q10 : w2.cell? ⟨w.heap.size + 1, 0, none⟩ = some (.int .i64 W) := K1.out.at_ 0 rfl
  have q11 : w2.cell? ⟨w.heap.size + 1, 1, none⟩ = some (.int .i64 H) := K1.out.at_ 1 rfl
  have q12 : w2.cell? ⟨w.heap.size + 1, 2, none⟩ = some (.slice A2 l2.length c2) := K1.out.at_ 2 rfl
  have q20 : w2.cell? ⟨w.heap.size + 2, 0, none⟩ = some (.int .i64 W) := K2.out.at_ 0 rfl
  have q21 : w2.cell? ⟨w.heap.size + 2, 1, none⟩ = some (.int .i64 H) := K2.out.at_ 1 rfl
  have q22 : w2.cell? ⟨w.heap.size + 2, 2, none⟩ = some (.slice A3 l3.length c3) := K2.out.at_ 2 rfl
  have q30 : w2.cell? ⟨w.heap.size + 3, 0, none⟩ = some (.int .i64 W) := K3.out.at_ 0 rfl
  have q31 : w2.cell? ⟨w.heap.size + 3, 1, none⟩ = some (.int .i64 H) := K3.out.at_ 1 rfl
  have q32 : w2.cell? ⟨w.heap.size + 3, 2, none⟩ = some (.slice A4 l4.length c4) := K3.out.at_ 2 rfl
  go_wp2
  go_loop [16, 17, 64] (fun s16 s17 s64 => ∃ k : Nat, k ≤ l4.length ∧ s64 = .int .i64 k ∧ s16 = .int .i64 (sumP true (l4.take k)) ∧ s17 = .int .i64 (cntP true (l4.take k))) (fun _ _ v => l4.length - (intOf v).toNat)
  case atStart => exact ⟨0, Nat.zero_le _, rfl, rfl, rfl⟩
  case round =>
    obtain ⟨k, hk, rfl, rfl, rfl⟩ := hrel
    have hl4 := e4.out ▸ hl1.out
    have hsb := sumP_bd true (l4.take k) (fun x hx => HB4.out x (List.mem_of_mem_take hx))
    have hcb := cntP_bd true (l4.take k)
    rw [List.length_take] at hsb hcb
    by_cases hlt : k < l4.length
    · obtain ⟨bb, o, rfl, -, hck⟩ := O4.out.sl.at_ (k := k) hlt
      have hst : Hid (l4.take (k + 1) = l4.take k ++ [l4[k]'hlt]) := take_snoc_i l4 hlt
      have bkk := HB4.out _ (List.getElem_mem hlt)
      generalize l4[k]'hlt = x at *
      have E1 : Hid (sumP true (l4.take (k + 1)) = sumP true (l4.take k) + if selP true x then x else 0) := by rw [Hid, hst.out, sumP_snoc]
      have E2 : Hid (cntP true (l4.take (k + 1)) = cntP true (l4.take k) + if selP true x then 1 else 0) := by rw [Hid, hst.out, cntP_snoc]
      have hs1 : -42949672960000 ≤ sumP true (l4.take k) ∧ sumP true (l4.take k) ≤ 42949672960000 := by omega
      have hc1 : 0 ≤ cntP true (l4.take k) ∧ cntP true (l4.take k) ≤ 10000 := by omega
      obtain ⟨hs1, hs2⟩ := hs1
      obtain ⟨hc1, hc2⟩ := hc1
      clear hsb hcb hst
      generalize sumP true (l4.take k) = sm at *
      generalize cntP true (l4.take k) = ct at *
      by_cases hx : 0 < x
      · have t1 : decide (0 < x) = true := decide_eq_true hx
        have E3 : Hid (selP true x = true) := by rw [Hid]; unfold selP; rw [t1]; rfl
        go_wp2
        go_round
        case rel => exact ⟨k + 1, by omega, by go_num, by rw [E1.out, if_pos E3.out], by rw [E2.out, if_pos E3.out]⟩
        case measure => simp [intOf]; omega
      · have t1 : decide (0 < x) = false := decide_eq_false hx
        have E3 : Hid (selP true x = false) := by rw [Hid]; unfold selP; rw [t1]; rfl
        go_wp2
        go_round
        case rel => exact ⟨k + 1, by omega, by go_num, by rw [E1.out, if_neg (by rw [E3.out]; simp)]; go_num, by rw [E2.out, if_neg (by rw [E3.out]; simp)]; go_num⟩
        case measure => simp [intOf]; omega
    · obtain rfl : k = l4.length := by omega
      rw [List.take_length]
      clear hsb hcb hk hlt hl4
      by_cases hn : cntP true l4 = 0
      · have HR : Hid (res = ⟨0, 0, [], [], 18⟩) := by have q := hres.out; rw [if_pos hn] at q; exact q.symm
        have t0 : (cntP true l4 == 0) = true := by rw [beq_iff_eq]; exact hn
        clear hn hX hO1
        generalize sumP true l4 = sm at *
        generalize cntP true l4 = ct at *
        have qo0 : w2.cell? ⟨w.heap.size + 4, 0, none⟩ = some (.int .i64 0) := K4.out.at_ 0 rfl
        have qo1 : w2.cell? ⟨w.heap.size + 4, 1, none⟩ = some (.int .i64 0) := K4.out.at_ 1 rfl
        have qo2 : w2.cell? ⟨w.heap.size + 4, 2, none⟩ = some (.slice none 0 0) := K4.out.at_ 2 rfl
        have f0z : w2.frozen? ⟨w.heap.size + 4, 0, none⟩ = false := K4.out.frozen 0
        have f1z : w2.frozen? ⟨w.heap.size + 4, 1, none⟩ = false := K4.out.frozen 1
        have f2z : w2.frozen? ⟨w.heap.size + 4, 2, none⟩ = false := K4.out.frozen 2
        go_wp2
        exact bodyPost_ret (v := .tuple #[.agg #[.int .i64 0, .int .i64 0, .slice none 0 0], .slice none 0 0, .int .i64 18]) (by simp [results, Tryz.results12, go_sem, qo0, qo1, qo2]) rfl (by rw [HR.out]; exact apR_err rfl (Below.setCell (Below.setCell (Below.setCell HB.out (p := ⟨w.heap.size + 4, 0, none⟩) (by simp <;> omega) _) (p := ⟨w.heap.size + 4, 1, none⟩) (by simp <;> omega) _) (p := ⟨w.heap.size + 4, 2, none⟩) (by simp <;> omega) _))
      · replace hX := Lib.hid (hX.out hn)
        have HR : Hid ((if erL E D l1 l2 l3 l4 l1.length = true then (⟨0, 0, [], [], 16⟩ : ApOut) else ⟨W, H, pxL E D l1 l2 l3 l4 l1.length, bdL l4 l1.length, 0⟩) = res) := by have q := hres.out; rwa [if_neg hn] at q
        replace hO1 := Lib.hid (hO1.out hn)
        have t0 : (cntP true l4 == 0) = false := by rw [beq_eq_false_iff_ne]; exact hn
        clear hn hres
        generalize sumP true l4 = sm at *
        generalize cntP true l4 = ct at *
        clear O1 O2 O3 O4
        go_wp2_with fail
        refine (hO1.out _ _ (BlkV.fresh rfl _ _)).mono ?_
        rintro e w3 ⟨A7, c7, A8, c8, rfl, hs7, hs8, hb'⟩
        (try dsimp only at hs7 hs8)
        (try dsimp only)
        have KC : Hid (BlkV w3 w2.heap.size 100 #[.int .i64 0]) := (BlkV.fresh rfl _ _).keep hb'
        have hb := below_mono (blw1 w2 _) hb'
        have hlc := Lib.hid HB.out.size
        clear hb'
        clear q00 q01 q02 q10 q11 q12 q20 q21 q22 q30 q31 q32
        replace K0 := Lib.hid (K0.out.keep hb)
        replace K1 := Lib.hid (K1.out.keep hb)
        replace K2 := Lib.hid (K2.out.keep hb)
        replace K3 := Lib.hid (K3.out.keep hb)
        replace K4 := Lib.hid (K4.out.keep hb)
        replace HB := Lib.hid (below_mono HB.out hb)
        clear hb
        have M7 : Hid (Sl w3 A7 lr c7) := hs7
        have M8 : Hid (Sl w3 A8 ls c8) := hs8
        clear hs7 hs8
        have hlm := Lib.hid HB.out.size
        have q00 : w3.cell? ⟨w.heap.size, 0, none⟩ = some (.int .i64 W) := K0.out.at_ 0 rfl
        have q01 : w3.cell? ⟨w.heap.size, 1, none⟩ = some (.int .i64 H) := K0.out.at_ 1 rfl
        have q02 : w3.cell? ⟨w.heap.size, 2, none⟩ = some (.slice A1 l1.length c1) := K0.out.at_ 2 rfl
        have q10 : w3.cell? ⟨w.heap.size + 1, 0, none⟩ = some (.int .i64 W) := K1.out.at_ 0 rfl
        have q11 : w3.cell? ⟨w.heap.size + 1, 1, none⟩ = some (.int .i64 H) := K1.out.at_ 1 rfl
        have q12 : w3.cell? ⟨w.heap.size + 1, 2, none⟩ = some (.slice A2 l2.length c2) := K1.out.at_ 2 rfl
        have q20 : w3.cell? ⟨w.heap.size + 2, 0, none⟩ = some (.int .i64 W) := K2.out.at_ 0 rfl
        have q21 : w3.cell? ⟨w.heap.size + 2, 1, none⟩ = some (.int .i64 H) := K2.out.at_ 1 rfl
        have q22 : w3.cell? ⟨w.heap.size + 2, 2, none⟩ = some (.slice A3 l3.length c3) := K2.out.at_ 2 rfl
        have q30 : w3.cell? ⟨w.heap.size + 3, 0, none⟩ = some (.int .i64 W) := K3.out.at_ 0 rfl
        have q31 : w3.cell? ⟨w.heap.size + 3, 1, none⟩ = some (.int .i64 H) := K3.out.at_ 1 rfl
        have q32 : w3.cell? ⟨w.heap.size + 3, 2, none⟩ = some (.slice A4 l4.length c4) := K3.out.at_ 2 rfl
        have hzc : w2.heap.size < w3.heap.size := KC.out.lt
        clear hO1
        go_upto_region 18 with fail
        generalize hwy : w3.alloc (.cells #[.bool nr, .slice A7 lr.length c7, .bool ns, .slice A8 ls.length c8] 67) = w4 at *
        have hb : Below w3.heap.size w3 w4 := by rw [← hwy]; exact blw1 _ _
        have KM : Hid (BlkV w4 w3.heap.size 67 #[.bool nr, .slice A7 lr.length c7, .bool ns, .slice A8 ls.length c8]) := by rw [← hwy]; exact BlkV.fresh rfl _ _
        clear hwy
        replace KC := Lib.hid (KC.out.keep hb)
        replace M7 := Lib.hid (M7.out.below hb)
        replace M8 := Lib.hid (M8.out.below hb)
        clear q00 q01 q02 q10 q11 q12 q20 q21 q22 q30 q31 q32
        replace K0 := Lib.hid (K0.out.keep hb)
        replace K1 := Lib.hid (K1.out.keep hb)
        replace K2 := Lib.hid (K2.out.keep hb)
        replace K3 := Lib.hid (K3.out.keep hb)
        replace K4 := Lib.hid (K4.out.keep hb)
        replace HB := Lib.hid (below_mono HB.out hb)
        clear hb
        have q00 : w4.cell? ⟨w.heap.size, 0, none⟩ = some (.int .i64 W) := K0.out.at_ 0 rfl
        have q01 : w4.cell? ⟨w.heap.size, 1, none⟩ = some (.int .i64 H) := K0.out.at_ 1 rfl
        have q02 : w4.cell? ⟨w.heap.size, 2, none⟩ = some (.slice A1 l1.length c1) := K0.out.at_ 2 rfl
        have q10 : w4.cell? ⟨w.heap.size + 1, 0, none⟩ = some (.int .i64 W) := K1.out.at_ 0 rfl
        have q11 : w4.cell? ⟨w.heap.size + 1, 1, none⟩ = some (.int .i64 H) := K1.out.at_ 1 rfl
        have q12 : w4.cell? ⟨w.heap.size + 1, 2, none⟩ = some (.slice A2 l2.length c2) := K1.out.at_ 2 rfl
        have q20 : w4.cell? ⟨w.heap.size + 2, 0, none⟩ = some (.int .i64 W) := K2.out.at_ 0 rfl
        have q21 : w4.cell? ⟨w.heap.size + 2, 1, none⟩ = some (.int .i64 H) := K2.out.at_ 1 rfl
        have q22 : w4.cell? ⟨w.heap.size + 2, 2, none⟩ = some (.slice A3 l3.length c3) := K2.out.at_ 2 rfl
        have q30 : w4.cell? ⟨w.heap.size + 3, 0, none⟩ = some (.int .i64 W) := K3.out.at_ 0 rfl
        have q31 : w4.cell? ⟨w.heap.size + 3, 1, none⟩ = some (.int .i64 H) := K3.out.at_ 1 rfl
        have q32 : w4.cell? ⟨w.heap.size + 3, 2, none⟩ = some (.slice A4 l4.length c4) := K3.out.at_ 2 rfl
        go_cut [22] from 82 to 90 (fun s22 wx => ∃ gO gP : Nat, s22 = .pointer (some ⟨gO, 0, none⟩) ∧ BlkV wx gO 24 #[.int .i64 W, .int .i64 H, .slice (some ⟨gP, 0, none⟩) l1.length l1.length] ∧ BlkV wx gP 2 (Array.replicate l1.length (.int .i64 0)) ∧ w4.heap.size ≤ gP ∧ Below w4.heap.size w4 wx)
        case first =>
          have hw40 : w.heap.size < w4.heap.size := K0.out.lt
          go_region
          all_goals (go_wp2_with fail; go_meet)
          · exact ⟨_, _, rfl, (BlkV.fresh (by simp) _ _).drew, ((BlkV.fresh rfl _ _).alloc _).drew, Nat.le_refl _, (below_mono (blw1 _ _) (blw1 _ _)).drew⟩
          · exact ⟨_, _, rfl, ((BlkV.fresh rfl _ _).alloc _).drew, (BlkV.fresh (by simp) _ _).drew, Nat.le_succ _, (below_mono (blw1 _ _) (blw1 _ _)).drew⟩
        case rest =>
          obtain ⟨gO, gP, rfl, hkO, hkP, hgP, hb⟩ := hcut
          generalize wc = wx at *
          have KO : Hid (BlkV wx gO 24 #[.int .i64 W, .int .i64 H, .slice (some ⟨gP, 0, none⟩) l1.length l1.length]) := hkO
          have KP : Hid (BlkV wx gP 2 (Array.replicate l1.length (.int .i64 0))) := hkP
          clear hkO hkP mkI
          replace KC := Lib.hid (KC.out.keep hb)
          replace KM := Lib.hid (KM.out.keep hb)
          replace M7 := Lib.hid (M7.out.below hb)
          replace M8 := Lib.hid (M8.out.below hb)
          replace hgP : Hid (w.heap.size ≤ gP) := Nat.le_trans HB.out.size hgP
          clear q00 q01 q02 q10 q11 q12 q20 q21 q22 q30 q31 q32
          replace K0 := Lib.hid (K0.out.keep hb)
          replace K1 := Lib.hid (K1.out.keep hb)
          replace K2 := Lib.hid (K2.out.keep hb)
          replace K3 := Lib.hid (K3.out.keep hb)
          replace K4 := Lib.hid (K4.out.keep hb)
          replace HB := Lib.hid (below_mono HB.out hb)
          clear hb
          have q00 : wx.cell? ⟨w.heap.size, 0, none⟩ = some (.int .i64 W) := K0.out.at_ 0 rfl
          have q01 : wx.cell? ⟨w.heap.size, 1, none⟩ = some (.int .i64 H) := K0.out.at_ 1 rfl
          have q02 : wx.cell? ⟨w.heap.size, 2, none⟩ = some (.slice A1 l1.length c1) := K0.out.at_ 2 rfl
          have q10 : wx.cell? ⟨w.heap.size + 1, 0, none⟩ = some (.int .i64 W) := K1.out.at_ 0 rfl
          have q11 : wx.cell? ⟨w.heap.size + 1, 1, none⟩ = some (.int .i64 H) := K1.out.at_ 1 rfl
          have q12 : wx.cell? ⟨w.heap.size + 1, 2, none⟩ = some (.slice A2 l2.length c2) := K1.out.at_ 2 rfl
          have q20 : wx.cell? ⟨w.heap.size + 2, 0, none⟩ = some (.int .i64 W) := K2.out.at_ 0 rfl
          have q21 : wx.cell? ⟨w.heap.size + 2, 1, none⟩ = some (.int .i64 H) := K2.out.at_ 1 rfl
          have q22 : wx.cell? ⟨w.heap.size + 2, 2, none⟩ = some (.slice A3 l3.length c3) := K2.out.at_ 2 rfl
          have q30 : wx.cell? ⟨w.heap.size + 3, 0, none⟩ = some (.int .i64 W) := K3.out.at_ 0 rfl
          have q31 : wx.cell? ⟨w.heap.size + 3, 1, none⟩ = some (.int .i64 H) := K3.out.at_ 1 rfl
          have q32 : wx.cell? ⟨w.heap.size + 3, 2, none⟩ = some (.slice A4 l4.length c4) := K3.out.at_ 2 rfl
          go_upto_region 20 with fail
          generalize hwy : wx.alloc (.cells (Array.replicate l1.length (.bool false)) 4) = wy at *
          have hb : Below wx.heap.size wx wy := by rw [← hwy]; exact blw1 _ _
          have KB : Hid (BlkV wy wx.heap.size 4 (Array.replicate l1.length (.bool false))) := by rw [← hwy]; exact BlkV.fresh rfl _ _
          clear hwy
          have hgB : Hid (w.heap.size ≤ wx.heap.size) := HB.out.size
          replace KC := Lib.hid (KC.out.keep hb)
          replace KM := Lib.hid (KM.out.keep hb)
          replace KO := Lib.hid (KO.out.keep hb)
          replace KP := Lib.hid (KP.out.keep hb)
          replace M7 := Lib.hid (M7.out.below hb)
          replace M8 := Lib.hid (M8.out.below hb)
          clear q00 q01 q02 q10 q11 q12 q20 q21 q22 q30 q31 q32
          replace K0 := Lib.hid (K0.out.keep hb)
          replace K1 := Lib.hid (K1.out.keep hb)
          replace K2 := Lib.hid (K2.out.keep hb)
          replace K3 := Lib.hid (K3.out.keep hb)
          replace K4 := Lib.hid (K4.out.keep hb)
          replace HB := Lib.hid (below_mono HB.out hb)
          clear hb
          have q00 : wy.cell? ⟨w.heap.size, 0, none⟩ = some (.int .i64 W) := K0.out.at_ 0 rfl
          have q01 : wy.cell? ⟨w.heap.size, 1, none⟩ = some (.int .i64 H) := K0.out.at_ 1 rfl
          have q02 : wy.cell? ⟨w.heap.size, 2, none⟩ = some (.slice A1 l1.length c1) := K0.out.at_ 2 rfl
          have q10 : wy.cell? ⟨w.heap.size + 1, 0, none⟩ = some (.int .i64 W) := K1.out.at_ 0 rfl
          have q11 : wy.cell? ⟨w.heap.size + 1, 1, none⟩ = some (.int .i64 H) := K1.out.at_ 1 rfl
          have q12 : wy.cell? ⟨w.heap.size + 1, 2, none⟩ = some (.slice A2 l2.length c2) := K1.out.at_ 2 rfl
          have q20 : wy.cell? ⟨w.heap.size + 2, 0, none⟩ = some (.int .i64 W) := K2.out.at_ 0 rfl
          have q21 : wy.cell? ⟨w.heap.size + 2, 1, none⟩ = some (.int .i64 H) := K2.out.at_ 1 rfl
          have q22 : wy.cell? ⟨w.heap.size + 2, 2, none⟩ = some (.slice A3 l3.length c3) := K2.out.at_ 2 rfl
          have q30 : wy.cell? ⟨w.heap.size + 3, 0, none⟩ = some (.int .i64 W) := K3.out.at_ 0 rfl
          have q31 : wy.cell? ⟨w.heap.size + 3, 1, none⟩ = some (.int .i64 H) := K3.out.at_ 1 rfl
          have q32 : wy.cell? ⟨w.heap.size + 3, 2, none⟩ = some (.slice A4 l4.length c4) := K3.out.at_ 2 rfl
          generalize wx.heap.size = gB at *
          generalize w2.heap.size = gc at *
          generalize w3.heap.size = gm at *
          have HI0 : Hid (PJ w wy wy gc gP gB (stK E D l1 l2 l3 l4 0) (fl (pvAt E D l1 l2 l3 l4) 0 l1.length 0) (fl (bdAt l4) false l1.length 0)) := PJ.start HB.out KC.out (by rw [fl_zero]; exact KP.out.cast_ (by simp [cI])) (by rw [fl_zero]; exact KB.out.cast_ (by simp [cB])) hlc.out hgP.out hgB.out
          clear KC KP KB hlc hgP hgB mkB
          go_wp2
          go_loopw [98] (fun s98 wr => ∃ k : Nat, k ≤ l1.length ∧ s98 = .int .i64 k ∧ PJ w wy wr gc gP gB (stK E D l1 l2 l3 l4 k) (fl (pvAt E D l1 l2 l3 l4) 0 l1.length k) (fl (bdAt l4) false l1.length k)) (fun v _ => l1.length - (intOf v).toNat)
          case atStart => exact ⟨0, Nat.zero_le _, rfl, HI0.out⟩
          case round =>
            obtain ⟨k, hk, rfl, hI⟩ := hrel
            have HI := Lib.hid hI
            clear hI HI0
            clear q00 q01 q02 q10 q11 q12 q20 q21 q22 q30 q31 q32
            have hl1' := hl1.out
            have hl4' := e4.out
            by_cases hlt : k < l1.length
            · have hk4 : k < l4.length := by omega
              clear hl4'
              have hk2 : k < l2.length := by have := e2.out; omega
              have hk3 : k < l3.length := by have := e3.out; omega
              obtain ⟨bb1, o1, rfl, -, x1⟩ := ok1.out.sl.atD hlt
              obtain ⟨bb2, o2, rfl, -, x2⟩ := ok2.out.sl.atD hk2
              obtain ⟨bb3, o3, rfl, -, x3⟩ := ok3.out.sl.atD hk3
              obtain ⟨bb4, o4, rfl, -, x4⟩ := ok4.out.sl.atD hk4
              have EP0 : Hid ((cI (fl (pvAt E D l1 l2 l3 l4) 0 l1.length k)).toArray[k]? = some (.int .i64 0)) := fl_atI hlt
              have hBk := HI.out.kB.at_ k (v := .bool false) (fl_atB hlt)
              have hBf := HI.out.kB.frozen k
              by_cases hx : 0 < l4.getD k 0
              · obtain ⟨p, R, hOF, hMU, hPX⟩ := hX.out gc k hx
                replace hOF := Lib.hid hOF
                replace hMU := Lib.hid hMU
                replace hPX := Lib.hid hPX
                obtain ⟨⟨n5, l5⟩, ⟨n6, l6⟩⟩ := p
                obtain ⟨⟨n7, l7⟩, ⟨n8, l8⟩⟩ := R
                have EB : Hid ((fl (bdAt l4) false l1.length k).set k false = fl (bdAt l4) false l1.length (k + 1)) := by have q := fl_set (f := bdAt l4) (z := false) hlt; rwa [show bdAt l4 k = false from decide_eq_false (by omega)] at q
                have EV : Hid ((fl (pvAt E D l1 l2 l3 l4) 0 l1.length k).set k (pixV (zAt E D l1 l2 l3 l4 k)) = fl (pvAt E D l1 l2 l3 l4) 0 l1.length (k + 1)) := by have q := fl_set (f := pvAt E D l1 l2 l3 l4) (z := 0) hlt; rwa [show pvAt E D l1 l2 l3 l4 k = pixV (zAt E D l1 l2 l3 l4 k) from if_neg (by omega)] at q
                have ES : Hid (stK E D l1 l2 l3 l4 (k + 1) = nte (stK E D l1 l2 l3 l4 k) (pixE (zAt E D l1 l2 l3 l4 k))) := stK_good (by omega)
                have t5 : decide (l4.getD k 0 ≤ 0) = false := decide_eq_false (by omega)
                obtain ⟨⟨g1, g2⟩, ⟨g3, g4⟩, g5, g6⟩ := hNL.out k
                clear hx hX
                have B1 := getD_bd HB1.out k
                have B2 := getD_bd HB2.out k
                obtain ⟨B11, B12⟩ := B1
                obtain ⟨B21, B22⟩ := B2
                generalize l1.getD k 0 = y1 at *
                generalize l2.getD k 0 = y2 at *
                generalize l3.getD k 0 = y3 at *
                generalize l4.getD k 0 = y4 at *
                generalize zAt E D l1 l2 l3 l4 k = z at *
                generalize fl (pvAt E D l1 l2 l3 l4) 0 l1.length k = pv0 at *
                generalize fl (bdAt l4) false l1.length k = bv0 at *
                generalize stK E D l1 l2 l3 l4 k = st0 at *
                have m1 : IntKind.i64.wrap ((y1 - y2) * D) = (y1 - y2) * D := IntWalk.i64_in _ (by omega)
                have m2 : IntKind.i64.wrap (y3 * E) = y3 * E := IntWalk.i64_in _ (by omega)
                have m3 : IntKind.i64.wrap (D * y4) = D * y4 := IntWalk.i64_in _ (by omega)
                have m4 : IntKind.i64.wrap ((y1 - y2) * D - y3 * E) = (y1 - y2) * D - y3 * E := IntWalk.i64_in _ (by omega)
                have y4c : wr.cell? ⟨bb4, o4 + k, none⟩ = some (.int .i64 y4) := (HI.out.hb.cell (p := ⟨bb4, o4 + k, none⟩) (lt_of_cell x4)).trans x4
                go_upto_region 24 with fail
                generalize hw5 : wr.setCell ⟨gB, k, none⟩ (.bool false) = w5 at *
                have HI5 : Hid (PJ w wy w5 gc gP gB st0 pv0 (fl (bdAt l4) false l1.length (k + 1))) := by rw [← hw5, ← EB.out]; exact HI.out.setB k false
                have qb : w5.cell? ⟨gB, k, none⟩ = some (.bool false) := by rw [← hw5]; exact World.cell?_set_at hBk _
                clear hw5 HI hBk hBf y4c
                have p0 : w5.cell? ⟨w.heap.size, 2, none⟩ = some (.slice (some ⟨bb1, o1, none⟩) l1.length c1) := (HI5.out.blk K0.out (by decide) (by decide) (by decide)).at_ 2 rfl
                have p1 : w5.cell? ⟨w.heap.size + 1, 2, none⟩ = some (.slice (some ⟨bb2, o2, none⟩) l2.length c2) := (HI5.out.blk K1.out (by decide) (by decide) (by decide)).at_ 2 rfl
                have p2 : w5.cell? ⟨w.heap.size + 2, 2, none⟩ = some (.slice (some ⟨bb3, o3, none⟩) l3.length c3) := (HI5.out.blk K2.out (by decide) (by decide) (by decide)).at_ 2 rfl
                have y1c : w5.cell? ⟨bb1, o1 + k, none⟩ = some (.int .i64 y1) := (HI5.out.hb.cell (p := ⟨bb1, o1 + k, none⟩) (lt_of_cell x1)).trans x1
                have y2c : w5.cell? ⟨bb2, o2 + k, none⟩ = some (.int .i64 y2) := (HI5.out.hb.cell (p := ⟨bb2, o2 + k, none⟩) (lt_of_cell x2)).trans x2
                have y3c : w5.cell? ⟨bb3, o3 + k, none⟩ = some (.int .i64 y3) := (HI5.out.hb.cell (p := ⟨bb3, o3 + k, none⟩) (lt_of_cell x3)).trans x3
                go_upto_region 25 with fail
                go_cut [26] from 112 to 132 (fun s26 wx => s26 = .int .i64 ((y1 - y2) * D - y3 * E) ∧ PJ w wy wx gc gP gB st0 pv0 (fl (bdAt l4) false l1.length (k + 1)))
                case first =>
                  go_quiet (fail)
                  go_wp2
                  go_meet
                  exact ⟨rfl, HI5.out.call (below_drewN (Below.refl _ _) _)⟩
                case rest =>
                  obtain ⟨rfl, hI6⟩ := hcut
                  generalize wc = wx at *
                  have HI6 := Lib.hid hI6
                  clear hI6 HI5 qb p0 p1 p2 y1c y2c y3c
                  go_wp2_with fail
                  have JS : Hid (∀ X x l b, PJ w wy X gc gP gB x l b → X.cell? ⟨gO, 2, none⟩ = some (.slice (some ⟨gP, 0, none⟩) l1.length l1.length) ∧ X.cell? ⟨gm, 0, none⟩ = some (.bool nr) ∧ X.cell? ⟨gm, 1, none⟩ = some (.slice A7 lr.length c7) ∧ X.cell? ⟨gm, 2, none⟩ = some (.bool ns) ∧ X.cell? ⟨gm, 3, none⟩ = some (.slice A8 ls.length c8)) := fun X x l b h => ⟨(h.blk KO.out (by decide) (by decide) (by decide)).at_ 2 rfl, (h.blk KM.out (by decide) (by decide) (by decide)).at_ 0 rfl, (h.blk KM.out (by decide) (by decide) (by decide)).at_ 1 rfl, (h.blk KM.out (by decide) (by decide) (by decide)).at_ 2 rfl, (h.blk KM.out (by decide) (by decide) (by decide)).at_ 3 rfl⟩
                  have HI7 := Lib.hid (HI6.out.call (w1 := wx.drew) (Below.refl _ _).drew)
                  have J0 := Lib.hid (JS.out _ _ _ _ HI7.out)
                  go_region_held3 (fun w' => w'.cell? ⟨gO, 2, none⟩ = some (.slice (some ⟨gP, 0, none⟩) l1.length l1.length) ∧ w'.cell? ⟨gm, 0, none⟩ = some (.bool nr) ∧ w'.cell? ⟨gm, 1, none⟩ = some (.slice A7 lr.length c7) ∧ w'.cell? ⟨gm, 2, none⟩ = some (.bool ns) ∧ w'.cell? ⟨gm, 3, none⟩ = some (.slice A8 ls.length c8)) (first | with_reducible exact JS.out _ _ _ _ (HIA.out.setP _ _) | with_reducible exact J3.out | with_reducible exact J2.out | with_reducible exact J1.out | with_reducible exact J0.out)
                    (first | (go_at_call 52; (with_reducible refine (hOF.out wx.drew st0 HI7.out.kc).mono ?_); rintro e v1 ⟨A11, c11, A12, c12, rfl, hs11, hs12, hb⟩; (try dsimp only at hs11); (try dsimp only at hs12); (try dsimp only); have HI8 := Lib.hid (HI7.out.call hb); have J1 := Lib.hid (JS.out _ _ _ _ HI8.out); replace hs11 := Lib.hid hs11; replace hs12 := Lib.hid hs12; clear hb) | (go_at_call 54; (with_reducible refine (hMU.out v1 st0 A11 A12 A7 A8 c11 c12 c7 c8 HI8.out.kc hs11.out hs12.out (HI8.out.sl M7.out) (HI8.out.sl M8.out)).mono ?_); rintro e v2 ⟨A13, c13, A14, c14, rfl, hs13, hs14, hb⟩; (try dsimp only at hs13); (try dsimp only at hs14); (try dsimp only); have HI9 := Lib.hid (HI8.out.call hb); have J2 := Lib.hid (JS.out _ _ _ _ HI9.out); replace hs13 := Lib.hid hs13; replace hs14 := Lib.hid hs14; clear hb) | (go_at_call 53; (with_reducible refine (hPX.out v2 st0 A13 A14 c13 c14 HI9.out.kc hs13.out hs14.out).mono ?_); rintro e v3 ⟨rfl, hst⟩; have HIA := Lib.hid (HI9.out.st hst); have J3 := Lib.hid (JS.out _ _ _ _ HIA.out); have hPk := HIA.out.kP.at_ k (v := .int .i64 0) EP0.out; have hPf := HIA.out.kP.frozen k; clear hst))
                  go_wp2_with fail
                  go_roundw
                  case rel => exact ⟨k + 1, by omega, by go_num, by rw [ES.out, ← EV.out]; exact HIA.out.setP k _⟩
                  case measure => simp [intOf]; omega
              · have EB : Hid ((fl (bdAt l4) false l1.length k).set k true = fl (bdAt l4) false l1.length (k + 1)) := by have q := fl_set (f := bdAt l4) (z := false) hlt; rwa [show bdAt l4 k = true from decide_eq_true (by omega)] at q
                have EV : Hid (fl (pvAt E D l1 l2 l3 l4) 0 l1.length k = fl (pvAt E D l1 l2 l3 l4) 0 l1.length (k + 1)) := fl_skip hlt (if_pos (by omega))
                have ES : Hid (stK E D l1 l2 l3 l4 (k + 1) = stK E D l1 l2 l3 l4 k) := stK_bad (by omega)
                have t5 : decide (l4.getD k 0 ≤ 0) = true := decide_eq_true (by omega)
                clear hx hX hNL EP0
                generalize l1.getD k 0 = y1 at *
                generalize l2.getD k 0 = y2 at *
                generalize l3.getD k 0 = y3 at *
                generalize l4.getD k 0 = y4 at *
                have y4c : wr.cell? ⟨bb4, o4 + k, none⟩ = some (.int .i64 y4) := (HI.out.hb.cell (p := ⟨bb4, o4 + k, none⟩) (lt_of_cell x4)).trans x4
                go_upto_region 24 with fail
                generalize hw5 : wr.setCell ⟨gB, k, none⟩ (.bool true) = w5 at *
                have HI5 : Hid (PJ w wy w5 gc gP gB (stK E D l1 l2 l3 l4 (k + 1)) (fl (pvAt E D l1 l2 l3 l4) 0 l1.length (k + 1)) (fl (bdAt l4) false l1.length (k + 1))) := by rw [← hw5, ← EB.out, ES.out, ← EV.out]; exact HI.out.setB k true
                have qb : w5.cell? ⟨gB, k, none⟩ = some (.bool true) := by rw [← hw5]; exact World.cell?_set_at hBk _
                clear hw5 HI hBk hBf y4c
                go_wp2_with fail
                go_roundw
                case rel => exact ⟨k + 1, by omega, by go_num, HI5.out⟩
                case measure => simp [intOf]; omega
            · obtain rfl : k = l1.length := by omega
              clear hX hNL hlt hk
              have qo0 : wr.cell? ⟨w.heap.size + 4, 0, none⟩ = some (.int .i64 0) := (HI.out.blk K4.out (by decide) (by decide) (by decide)).at_ 0 rfl
              have qo1 : wr.cell? ⟨w.heap.size + 4, 1, none⟩ = some (.int .i64 0) := (HI.out.blk K4.out (by decide) (by decide) (by decide)).at_ 1 rfl
              have qo2 : wr.cell? ⟨w.heap.size + 4, 2, none⟩ = some (.slice none 0 0) := (HI.out.blk K4.out (by decide) (by decide) (by decide)).at_ 2 rfl
              have f0z : wr.frozen? ⟨w.heap.size + 4, 0, none⟩ = false := (HI.out.blk K4.out (by decide) (by decide) (by decide)).frozen 0
              have f1z : wr.frozen? ⟨w.heap.size + 4, 1, none⟩ = false := (HI.out.blk K4.out (by decide) (by decide) (by decide)).frozen 1
              have f2z : wr.frozen? ⟨w.heap.size + 4, 2, none⟩ = false := (HI.out.blk K4.out (by decide) (by decide) (by decide)).frozen 2
              have qc : wr.cell? ⟨gc, 0, none⟩ = some (.int .i64 (stK E D l1 l2 l3 l4 l1.length)) := HI.out.kc.at_ 0 rfl
              have hnc : gc ≠ w.heap.size + 1 + 1 + 1 + 1 := ((HI.out.blk K4.out (by decide) (by decide) (by decide)).ne_ HI.out.kc (by decide)).symm
              have hnc2 := hnc.symm
              by_cases her : erL E D l1 l2 l3 l4 l1.length = true
              · rw [show stK E D l1 l2 l3 l4 l1.length = 16 from if_pos her] at qc
                have HR := HR.out
                rw [if_pos her] at HR
                replace HR := Lib.hid HR.symm
                have HBw := Lib.hid HI.out.hb
                clear her HI
                go_wp2_with fail
                go_region
                all_goals go_wp2
                all_goals exact bodyPost_ret (v := .tuple #[.agg #[.int .i64 0, .int .i64 0, .slice none 0 0], .slice none 0 0, .int .i64 16]) (by simp [results, Tryz.results12, go_sem, qo0, qo1, qo2]) rfl (by rw [HR.out]; exact apR_err rfl (Below.setCell (Below.setCell (Below.setCell (below_drewN HBw.out _) (p := ⟨w.heap.size + 4, 0, none⟩) (by simp <;> omega) _) (p := ⟨w.heap.size + 4, 1, none⟩) (by simp <;> omega) _) (p := ⟨w.heap.size + 4, 2, none⟩) (by simp <;> omega) _))
              · rw [show stK E D l1 l2 l3 l4 l1.length = 0 from if_neg her] at qc
                have HR := HR.out
                rw [if_neg her] at HR
                replace HR := Lib.hid HR.symm
                have EPX : Hid (fl (pvAt E D l1 l2 l3 l4) 0 l1.length l1.length = pxL E D l1 l2 l3 l4 l1.length) := pvL_eq (by simpa using her)
                have EBX : Hid (fl (bdAt l4) false l1.length l1.length = bdL l4 l1.length) := flB_full _ _
                clear her
                have qO0 : wr.cell? ⟨gO, 0, none⟩ = some (.int .i64 W) := (HI.out.blk KO.out (by decide) (by decide) (by decide)).at_ 0 rfl
                have qO1 : wr.cell? ⟨gO, 1, none⟩ = some (.int .i64 H) := (HI.out.blk KO.out (by decide) (by decide) (by decide)).at_ 1 rfl
                have qO2 : wr.cell? ⟨gO, 2, none⟩ = some (.slice (some ⟨gP, 0, none⟩) l1.length l1.length) := (HI.out.blk KO.out (by decide) (by decide) (by decide)).at_ 2 rfl
                go_wp2
                exact bodyPost_ret (v := .tuple #[.agg #[.int .i64 W, .int .i64 H, .slice (some ⟨gP, 0, none⟩) l1.length l1.length], .slice (some ⟨gB, 0, none⟩) l1.length l1.length, .int .i64 0]) (by simp [results, Tryz.results12, go_sem, qo0, qo1, qo2]) rfl (by rw [HR.out]; exact pi_end (EPX.out ▸ EBX.out ▸ HI.out) (pxL_len _ _ _ _ _ _ _) (bdL_len _ _) (pxL_in64 _ _ _ _ _ _ _) hl1.out K4.out (Nat.le_add_right _ _) _ _ _)

end Go.Proofs.YtlekjkljajeodaaGreat

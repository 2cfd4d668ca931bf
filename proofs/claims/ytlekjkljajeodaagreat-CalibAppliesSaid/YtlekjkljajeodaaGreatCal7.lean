/- Walk: the reference's Apply, where nothing is wrong but pixels. -/
import Derived.Test.YtlekjkljajeodaaGreatCal6
import Derived.Deep.RegionHeld3
namespace Go.Proofs.YtlekjkljajeodaaGreat
open Go.RowKit
attribute [local go_sem ↓] Go.wp_at_zero Go.wp_at_succ
theorem getD_bd {l : List Int} (h : ∀ x ∈ l, -4294967296 ≤ x ∧ x ≤ 4294967296) (k : Nat) : -4294967296 ≤ l.getD k 0 ∧ l.getD k 0 ≤ 4294967296 := by
  rw [List.getD_eq_getElem?_getD]
  rcases Nat.lt_or_ge k l.length with hk | hk
  · rw [List.getElem?_eq_getElem hk]; exact h _ (List.getElem_mem hk)
  · rw [List.getElem?_eq_none hk]; decide

theorem SlI.atD {w : World} {B : Nat} {A : Option Addr} {l : List Int} {c k : Nat} (h : SlI w B A l c) (hk : k < l.length) : ∃ b o, A = some ⟨b, o, none⟩ ∧ b < B ∧ w.cell? ⟨b, o + k, none⟩ = some (.int .i64 (l.getD k 0)) := by
  obtain ⟨b, o, e, hb, hc⟩ := h.at_ hk
  exact ⟨b, o, e, hb, by rw [hc, List.getD_eq_getElem?_getD, List.getElem?_eq_getElem hk]; rfl⟩

theorem rpix_facts {E D : Int} {l1 l2 l3 l4 : List Int} {np nq nr ns : Bool} {lp lq lr ls : List Nat} (hP : redZ E D = ((np, lp), (nq, lq))) (hQ : redZ (sumP true l4) (cntP true l4) = ((nr, lr), (ns, ls)))
    (b1 : ∀ x ∈ l1, -4294967296 ≤ x ∧ x ≤ 4294967296) (b2 : ∀ x ∈ l2, -4294967296 ≤ x ∧ x ≤ 4294967296) (b3 : ∀ x ∈ l3, -4294967296 ≤ x ∧ x ≤ 4294967296) (b4 : ∀ x ∈ l4, -4294967296 ≤ x ∧ x ≤ 4294967296)
    (hl : l4.length ≤ 10000) (E0 : 0 ≤ E) (E1 : E ≤ 1000000) (D0 : 1 ≤ D) (D1 : D ≤ 1000000) (hn : cntP true l4 ≠ 0) :
    ∀ k, 0 < l4.getD k 0 → ∃ R : (Bool × List Nat) × (Bool × List Nat), (∀ (V : World) A5 A6 A7 A8 c5 c6 c7 c8, Sl V A5 lp c5 → Sl V A6 lq c6 → Sl V A7 lr c7 → Sl V A8 ls c8 → Calls Tryz.prog 57 #[.int .i64 (l1.getD k 0), .int .i64 (l2.getD k 0), .int .i64 (l3.getD k 0), .int .i64 (l4.getD k 0), .agg #[.bool np, .slice A5 lp.length c5, .bool nq, .slice A6 lq.length c6], .agg #[.bool nr, .slice A7 lr.length c7, .bool ns, .slice A8 ls.length c8]] V (FRes1 R V)) ∧ (∀ (V : World) A5 A6 c5 c6, Sl V A5 R.1.2 c5 → Sl V A6 R.2.2 c6 → Calls Tryz.prog 56 #[.agg #[.bool R.1.1, .slice A5 R.1.2.length c5, .bool R.2.1, .slice A6 R.2.2.length c6]] V fun e V' => e = .returned (.tuple #[.int .i64 (pixR (zAt E D l1 l2 l3 l4 k)), .int .i64 (pixE (zAt E D l1 l2 l3 l4 k))]) ∧ Below V.heap.size V V') := by
  intro k hk
  have h1 := getD_bd b1 k
  have h2 := getD_bd b2 k
  have h3 := getD_bd b3 k
  have h4 := getD_bd b4 k
  have hs := sumP_bd true l4 b4
  have hs0 := sumP_pos hn
  have hc := cntP_bd true l4
  obtain ⟨P, Q, R, m1, s, m2, p1, z, hP', hQ', -, e1, e2, e3, e4, -, hz, hr, fz, -⟩ := calib_facts h1.1 h1.2 h2.1 h2.2 h3.1 h3.2 hk h4.2 E0 E1 D0 D1 hs0 (by omega) (by omega : 0 < cntP true l4) (by omega)
  rw [hP] at hP'; subst hP'
  rw [hQ] at hQ'; subst hQ'
  have hz' : z = zAt E D l1 l2 l3 l4 k := hz
  subst hz'
  exact ⟨R, fun V A5 A6 A7 A8 c5 c6 c7 c8 s5 s6 s7 s8 => rcalibrated_any _ _ _ _ h1.1 h1.2 h2.1 h2.2 h3.1 h3.2 (by omega) h4.2 ((np, lp), (nq, lq)) ((nr, lr), (ns, ls)) R m1 s m2 e1 e2 e3 e4 A5 A6 A7 A8 c5 c6 c7 c8 V s5 s6 s7 s8,
    fun V A5 A6 c5 c6 s5 s6 => rpixel_any _ _ A5 A6 _ _ c5 c6 _ hr fz V s5 s6⟩

theorem Below.trans' {w wy w' : World} (h : Below w.heap.size w wy) (h2 : Below wy.heap.size wy w') : Below w.heap.size w w' := below_mono h h2

theorem ri_end {w wy wr : World} {W H : Int} {A A2 : Option Addr} {n c c2 g : Nat} {l : List Int} {bs : List Bool} (h : RI wy wr W H (.slice A n c) (.slice A2 n c2) l bs) (hl : l.length = n) (hb : bs.length = n) (hin : In64 l) (hn : n ≤ 10000) (hc : n ≤ c) (hc2 : n ≤ c2)
    (hg : g < wy.heap.size) (hwg : w.heap.size ≤ g) (hw : Below w.heap.size w wy) (x y z : Value) :
    ApR ⟨W, H, l, bs, 0⟩ w (.returned (.tuple #[.agg #[.int .i64 W, .int .i64 H, .slice A n c], .slice A2 n c2, .int .i64 0])) (((wr.setCell ⟨g, 0, none⟩ x).setCell ⟨g, 1, none⟩ y).setCell ⟨g, 2, none⟩ z) := by
  have h1 := ((h.ow.far (p := ⟨g, 0, none⟩) (Nat.lt_succ_of_lt hg) x).far (p := ⟨g, 1, none⟩) (Nat.lt_succ_of_lt hg) y).far (p := ⟨g, 2, none⟩) (Nat.lt_succ_of_lt hg) z
  have h2 := ((h.ob.far (p := ⟨g, 0, none⟩) (Nat.lt_succ_of_lt hg) x).far (p := ⟨g, 1, none⟩) (Nat.lt_succ_of_lt hg) y).far (p := ⟨g, 2, none⟩) (Nat.lt_succ_of_lt hg) z
  subst hl
  refine ⟨A, c, A2, c2, by rw [hb], ⟨?_, hin, hc, by show l.length ≤ _; omega⟩, ⟨?_, by show bs.length ≤ _; omega, by show bs.length ≤ _; omega⟩, ?_⟩
  · exact OwV.rd (c := c) (by rw [cI_length]; exact h1)
  · exact OwV.rd (c := c2) (by rw [cB_length, hb]; exact h2)
  · exact (((below_mono hw h.hb).setCell (p := ⟨g, 0, none⟩) hwg x).setCell (p := ⟨g, 1, none⟩) hwg y).setCell (p := ⟨g, 2, none⟩) hwg z

set_option maxRecDepth 100000 in
set_option maxHeartbeats 8000000 in
theorem rap_main (W H : Int) (A1 A2 A3 A4 : Option Addr) (l1 l2 l3 l4 : List Int) (c1 c2 c3 c4 : Nat) (E D : Int) (B : Nat) (w : World) (ok1 : OkD w B ⟨W, H, A1, l1, c1⟩) (ok2 : OkD w B ⟨W, H, A2, l2, c2⟩) (ok3 : OkD w B ⟨W, H, A3, l3, c3⟩) (ok4 : OkD w B ⟨W, H, A4, l4, c4⟩) (h : ApOk ⟨W, H, A1, l1, c1⟩ ⟨W, H, A2, l2, c2⟩ ⟨W, H, A3, l3, c3⟩ ⟨W, H, A4, l4, c4⟩ E D) (hn : cntP true l4 ≠ 0) :
    Calls Tryz.prog 13 #[.agg #[.int .i64 W, .int .i64 H, .slice A1 l1.length c1], .agg #[.int .i64 W, .int .i64 H, .slice A2 l2.length c2], .agg #[.int .i64 W, .int .i64 H, .slice A3 l3.length c3], .agg #[.int .i64 W, .int .i64 H, .slice A4 l4.length c4], .int .i64 E, .int .i64 D] w (ApR (if erL E D l1 l2 l3 l4 l1.length = true then ⟨0, 0, [], [], 16⟩ else ⟨W, H, pxL E D l1 l2 l3 l4 l1.length, bdL l4 l1.length, 0⟩) w) := by
  generalize hres : (if erL E D l1 l2 l3 l4 l1.length = true then (⟨0, 0, [], [], 16⟩ : ApOut) else ⟨W, H, pxL E D l1 l2 l3 l4 l1.length, bdL l4 l1.length, 0⟩) = res
  replace hres := Lib.hid hres
  obtain ⟨hb1, hl1⟩ := fchk_lim h.c1
  obtain ⟨hb2, -⟩ := fchk_lim h.c2
  obtain ⟨hb3, -⟩ := fchk_lim h.c3
  obtain ⟨hb4, hl4⟩ := fchk_lim h.c4
  have e2 := ali_len h.c1 h.c2 h.a2
  have e3 := ali_len h.c1 h.c3 h.a3
  have e4 := ali_len h.c1 h.c4 h.a4
  dsimp only at hb1 hb2 hb3 hb4 hl1 hl4 e2 e3 e4
  have hc1 := h.c1
  change fchk W H l1 = 0 at hc1
  have hC1 : Hid (∀ V, SlI V B A1 l1 c1 → Calls Tryz.prog 39 #[.agg #[.int .i64 W, .int .i64 H, .slice A1 l1.length c1]] V fun e V' => e = .returned (.int .i64 0) ∧ Below V.heap.size V V') := fun V hs => by have q := rccheck_any W H A1 l1 c1 B V hs; rwa [hc1] at q
  clear hc1
  have hc2 := h.c2
  change fchk W H l2 = 0 at hc2
  have hC2 : Hid (∀ V, SlI V B A2 l2 c2 → Calls Tryz.prog 39 #[.agg #[.int .i64 W, .int .i64 H, .slice A2 l2.length c2]] V fun e V' => e = .returned (.int .i64 0) ∧ Below V.heap.size V V') := fun V hs => by have q := rccheck_any W H A2 l2 c2 B V hs; rwa [hc2] at q
  clear hc2
  have hc3 := h.c3
  change fchk W H l3 = 0 at hc3
  have hC3 : Hid (∀ V, SlI V B A3 l3 c3 → Calls Tryz.prog 39 #[.agg #[.int .i64 W, .int .i64 H, .slice A3 l3.length c3]] V fun e V' => e = .returned (.int .i64 0) ∧ Below V.heap.size V V') := fun V hs => by have q := rccheck_any W H A3 l3 c3 B V hs; rwa [hc3] at q
  clear hc3
  have hc4 := h.c4
  change fchk W H l4 = 0 at hc4
  have hC4 : Hid (∀ V, SlI V B A4 l4 c4 → Calls Tryz.prog 39 #[.agg #[.int .i64 W, .int .i64 H, .slice A4 l4.length c4]] V fun e V' => e = .returned (.int .i64 0) ∧ Below V.heap.size V V') := fun V hs => by have q := rccheck_any W H A4 l4 c4 B V hs; rwa [hc4] at q
  clear hc4
  have hA2 : Hid (∀ V, Calls Tryz.prog 42 #[.agg #[.int .i64 W, .int .i64 H, .slice A1 l1.length c1], .agg #[.int .i64 W, .int .i64 H, .slice A2 l2.length c2]] V fun e V' => e = .returned (.bool true) ∧ Below V.heap.size V V') := fun V => by have q := ralike_any ⟨W, H, A1, l1, c1⟩ ⟨W, H, A2, l2, c2⟩ V; rwa [h.a2] at q
  have hA3 : Hid (∀ V, Calls Tryz.prog 42 #[.agg #[.int .i64 W, .int .i64 H, .slice A1 l1.length c1], .agg #[.int .i64 W, .int .i64 H, .slice A3 l3.length c3]] V fun e V' => e = .returned (.bool true) ∧ Below V.heap.size V V') := fun V => by have q := ralike_any ⟨W, H, A1, l1, c1⟩ ⟨W, H, A3, l3, c3⟩ V; rwa [h.a3] at q
  have hA4 : Hid (∀ V, Calls Tryz.prog 42 #[.agg #[.int .i64 W, .int .i64 H, .slice A1 l1.length c1], .agg #[.int .i64 W, .int .i64 H, .slice A4 l4.length c4]] V fun e V' => e = .returned (.bool true) ∧ Below V.heap.size V V') := fun V => by have q := ralike_any ⟨W, H, A1, l1, c1⟩ ⟨W, H, A4, l4, c4⟩ V; rwa [h.a4] at q
  obtain ⟨⟨⟨np, lp⟩, ⟨nq, lq⟩⟩, hP⟩ : ∃ P, redZ E D = P := ⟨_, rfl⟩
  obtain ⟨⟨⟨nr, lr⟩, ⟨ns, ls⟩⟩, hQ⟩ : ∃ Q, redZ (sumP true l4) (cntP true l4) = Q := ⟨_, rfl⟩
  have hX : Hid (∀ k, 0 < l4.getD k 0 → ∃ R : (Bool × List Nat) × (Bool × List Nat), (∀ (V : World) A5 A6 A7 A8 c5 c6 c7 c8, Sl V A5 lp c5 → Sl V A6 lq c6 → Sl V A7 lr c7 → Sl V A8 ls c8 → Calls Tryz.prog 57 #[.int .i64 (l1.getD k 0), .int .i64 (l2.getD k 0), .int .i64 (l3.getD k 0), .int .i64 (l4.getD k 0), .agg #[.bool np, .slice A5 lp.length c5, .bool nq, .slice A6 lq.length c6], .agg #[.bool nr, .slice A7 lr.length c7, .bool ns, .slice A8 ls.length c8]] V (FRes1 R V)) ∧ (∀ (V : World) A5 A6 c5 c6, Sl V A5 R.1.2 c5 → Sl V A6 R.2.2 c6 → Calls Tryz.prog 56 #[.agg #[.bool R.1.1, .slice A5 R.1.2.length c5, .bool R.2.1, .slice A6 R.2.2.length c6]] V fun e V' => e = .returned (.tuple #[.int .i64 (pixR (zAt E D l1 l2 l3 l4 k)), .int .i64 (pixE (zAt E D l1 l2 l3 l4 k))]) ∧ Below V.heap.size V V')) := rpix_facts hP hQ hb1 hb2 hb3 hb4 hl4 h.e0 h.e1 h.d0 h.d1 hn
  have hs := sumP_bd true l4 hb4
  have hc := cntP_bd true l4
  have hT : Hid (∀ V, SlI V B A4 l4 c4 → Calls Tryz.prog 55 #[.agg #[.int .i64 W, .int .i64 H, .slice A4 l4.length c4], .bool true] V fun e V' => e = .returned (.tuple #[.int .i64 (sumP true l4), .int .i64 (cntP true l4)]) ∧ Below V.heap.size V V') := fun V hs => rtotal_any W H A4 l4 c4 B true hb4 hl4 V hs
  have hO1 : Hid (∀ V, Calls Tryz.prog 28 #[.int .i64 (sumP true l4), .int .i64 (cntP true l4)] V (FRes (((nr, lr), (ns, ls)), 0) V)) := fun V => by have q := rof_any (sumP true l4) (cntP true l4) (by omega) (by omega) (by omega) (by omega) V; unfold ofS at q; rwa [if_neg hn, hQ] at q
  have hO2 : Hid (∀ V, Calls Tryz.prog 28 #[.int .i64 E, .int .i64 D] V (FRes (((np, lp), (nq, lq)), 0) V)) := fun V => by have q := rof_any E D (by have := h.e0; omega) (by have := h.e1; omega) (by have := h.d0; omega) (by have := h.d1; omega) V; unfold ofS at q; rwa [if_neg (by have := h.d0; omega), hP] at q
  have u0 : decide (E < 0) = false := decide_eq_false (by have := h.e0; omega)
  have u1 : decide (1000000 < E) = false := decide_eq_false (by have := h.e1; omega)
  have u2 : decide (D < 1) = false := decide_eq_false (by have := h.d0; omega)
  have u3 : decide (1000000 < D) = false := decide_eq_false (by have := h.d1; omega)
  have t0 : (cntP true l4 == 0) = false := by rw [beq_eq_false_iff_ne]; exact hn
  clear hP hQ hn hs hc hb1 hb2 hb3 hb4 hl4 h
  generalize sumP true l4 = sm at *
  generalize cntP true l4 = ct at *
  replace e2 := Lib.hid e2
  replace e3 := Lib.hid e3
  replace e4 := Lib.hid e4
  replace hl1 := Lib.hid hl1
  obtain ⟨ib, hib, hib0, hib1, hib2⟩ := info_parts (show (Tryz.prog.info? 4).map (fun i => (i.zero, i.size, i.bytes)) = some (some (.bool false), 1, 1) by kernel_rfl)
  obtain ⟨ii, hii, hii0, hii1, hii2⟩ := info_parts (show (Tryz.prog.info? 2).map (fun i => (i.zero, i.size, i.bytes)) = some (some (.int .i64 0), 1, 8) by kernel_rfl)
  replace ok1 := Lib.hid ok1
  replace ok2 := Lib.hid ok2
  replace ok3 := Lib.hid ok3
  replace ok4 := Lib.hid ok4
  go_enter Tryz.func13, Tryz.ntmps13
  go_wp2_with (fail)
  generalize hwz : ((((w.alloc (.cells #[.int .i64 W, .int .i64 H, .slice A1 l1.length c1] 24)).alloc (.cells #[.int .i64 W, .int .i64 H, .slice A2 l2.length c2] 24)).alloc (.cells #[.int .i64 W, .int .i64 H, .slice A3 l3.length c3] 24)).alloc (.cells #[.int .i64 W, .int .i64 H, .slice A4 l4.length c4] 24)).alloc (.cells #[.int .i64 0, .int .i64 0, .slice none 0 0] 24) = wz at *
  have K0 : Hid (BlkV wz (w.heap.size) 24 #[.int .i64 W, .int .i64 H, .slice A1 l1.length c1]) := by rw [← hwz]; exact ((((BlkV.fresh (by simp) _ _).alloc _).alloc _).alloc _).alloc _
  have K1 : Hid (BlkV wz (w.heap.size + 1) 24 #[.int .i64 W, .int .i64 H, .slice A2 l2.length c2]) := by rw [← hwz]; exact (((BlkV.fresh (by simp) _ _).alloc _).alloc _).alloc _
  have K2 : Hid (BlkV wz (w.heap.size + 2) 24 #[.int .i64 W, .int .i64 H, .slice A3 l3.length c3]) := by rw [← hwz]; exact ((BlkV.fresh (by simp) _ _).alloc _).alloc _
  have K3 : Hid (BlkV wz (w.heap.size + 3) 24 #[.int .i64 W, .int .i64 H, .slice A4 l4.length c4]) := by rw [← hwz]; exact (BlkV.fresh (by simp) _ _).alloc _
  have K4 : Hid (BlkV wz (w.heap.size + 4) 24 #[.int .i64 0, .int .i64 0, .slice none 0 0]) := by rw [← hwz]; exact BlkV.fresh (by simp) _ _
  have HB : Hid (Below w.heap.size w wz) := by rw [← hwz]; exact blw5 _ _ _ _ _ _
  have O1 : Hid (SlI wz B A1 l1 c1) := by rw [← hwz]; exact (OkD.below ok1.out (blw5 _ _ _ _ _ _)).sl
  have O2 : Hid (SlI wz B A2 l2 c2) := by rw [← hwz]; exact (OkD.below ok2.out (blw5 _ _ _ _ _ _)).sl
  have O3 : Hid (SlI wz B A3 l3 c3) := by rw [← hwz]; exact (OkD.below ok3.out (blw5 _ _ _ _ _ _)).sl
  have O4 : Hid (SlI wz B A4 l4 c4) := by rw [← hwz]; exact (OkD.below ok4.out (blw5 _ _ _ _ _ _)).sl
  clear hwz ok1 ok2 ok3 ok4
  have q00 : wz.cell? ⟨w.heap.size, 0, none⟩ = some (.int .i64 W) := K0.out.at_ 0 rfl
  have q01 : wz.cell? ⟨w.heap.size, 1, none⟩ = some (.int .i64 H) := K0.out.at_ 1 rfl
  have q02 : wz.cell? ⟨w.heap.size, 2, none⟩ = some (.slice A1 l1.length c1) := K0.out.at_ 2 rfl
  have q10 : wz.cell? ⟨w.heap.size + 1, 0, none⟩ = some (.int .i64 W) := K1.out.at_ 0 rfl
  have q11 : wz.cell? ⟨w.heap.size + 1, 1, none⟩ = some (.int .i64 H) := K1.out.at_ 1 rfl
  have q12 : wz.cell? ⟨w.heap.size + 1, 2, none⟩ = some (.slice A2 l2.length c2) := K1.out.at_ 2 rfl
  have q20 : wz.cell? ⟨w.heap.size + 2, 0, none⟩ = some (.int .i64 W) := K2.out.at_ 0 rfl
  have q21 : wz.cell? ⟨w.heap.size + 2, 1, none⟩ = some (.int .i64 H) := K2.out.at_ 1 rfl
  have q22 : wz.cell? ⟨w.heap.size + 2, 2, none⟩ = some (.slice A3 l3.length c3) := K2.out.at_ 2 rfl
  have q30 : wz.cell? ⟨w.heap.size + 3, 0, none⟩ = some (.int .i64 W) := K3.out.at_ 0 rfl
  have q31 : wz.cell? ⟨w.heap.size + 3, 1, none⟩ = some (.int .i64 H) := K3.out.at_ 1 rfl
  have q32 : wz.cell? ⟨w.heap.size + 3, 2, none⟩ = some (.slice A4 l4.length c4) := K3.out.at_ 2 rfl
  refine (hC1.out _ O1.out).mono ?_
  rintro e w1 ⟨rfl, hb⟩
  clear q00 q01 q02
  clear q10 q11 q12
  clear q20 q21 q22
  clear q30 q31 q32
  replace O1 := Lib.hid (O1.out.below hb)
  replace O2 := Lib.hid (O2.out.below hb)
  replace O3 := Lib.hid (O3.out.below hb)
  replace O4 := Lib.hid (O4.out.below hb)
  replace K0 := Lib.hid (K0.out.keep hb)
  replace K1 := Lib.hid (K1.out.keep hb)
  replace K2 := Lib.hid (K2.out.keep hb)
  replace K3 := Lib.hid (K3.out.keep hb)
  replace K4 := Lib.hid (K4.out.keep hb)
  replace HB := Lib.hid (below_mono HB.out hb)
  clear hb
  have q00 : w1.cell? ⟨w.heap.size, 0, none⟩ = some (.int .i64 W) := K0.out.at_ 0 rfl
  have q01 : w1.cell? ⟨w.heap.size, 1, none⟩ = some (.int .i64 H) := K0.out.at_ 1 rfl
  have q02 : w1.cell? ⟨w.heap.size, 2, none⟩ = some (.slice A1 l1.length c1) := K0.out.at_ 2 rfl
  have q10 : w1.cell? ⟨w.heap.size + 1, 0, none⟩ = some (.int .i64 W) := K1.out.at_ 0 rfl
  have q11 : w1.cell? ⟨w.heap.size + 1, 1, none⟩ = some (.int .i64 H) := K1.out.at_ 1 rfl
  have q12 : w1.cell? ⟨w.heap.size + 1, 2, none⟩ = some (.slice A2 l2.length c2) := K1.out.at_ 2 rfl
  have q20 : w1.cell? ⟨w.heap.size + 2, 0, none⟩ = some (.int .i64 W) := K2.out.at_ 0 rfl
  have q21 : w1.cell? ⟨w.heap.size + 2, 1, none⟩ = some (.int .i64 H) := K2.out.at_ 1 rfl
  have q22 : w1.cell? ⟨w.heap.size + 2, 2, none⟩ = some (.slice A3 l3.length c3) := K2.out.at_ 2 rfl
  have q30 : w1.cell? ⟨w.heap.size + 3, 0, none⟩ = some (.int .i64 W) := K3.out.at_ 0 rfl
  have q31 : w1.cell? ⟨w.heap.size + 3, 1, none⟩ = some (.int .i64 H) := K3.out.at_ 1 rfl
  have q32 : w1.cell? ⟨w.heap.size + 3, 2, none⟩ = some (.slice A4 l4.length c4) := K3.out.at_ 2 rfl
  go_wp2_with fail
  refine (hC2.out _ O2.out).mono ?_
  rintro e w2 ⟨rfl, hb⟩
  clear q00 q01 q02
  clear q10 q11 q12
  clear q20 q21 q22
  clear q30 q31 q32
  replace O1 := Lib.hid (O1.out.below hb)
  replace O2 := Lib.hid (O2.out.below hb)
  replace O3 := Lib.hid (O3.out.below hb)
  replace O4 := Lib.hid (O4.out.below hb)
  replace K0 := Lib.hid (K0.out.keep hb)
  replace K1 := Lib.hid (K1.out.keep hb)
  replace K2 := Lib.hid (K2.out.keep hb)
  replace K3 := Lib.hid (K3.out.keep hb)
  replace K4 := Lib.hid (K4.out.keep hb)
  replace HB := Lib.hid (below_mono HB.out hb)
  clear hb
  have q00 : w2.cell? ⟨w.heap.size, 0, none⟩ = some (.int .i64 W) := K0.out.at_ 0 rfl
  have q01 : w2.cell? ⟨w.heap.size, 1, none⟩ = some (.int .i64 H) := K0.out.at_ 1 rfl
  have q02 : w2.cell? ⟨w.heap.size, 2, none⟩ = some (.slice A1 l1.length c1) := K0.out.at_ 2 rfl
  have q10 : w2.cell? ⟨w.heap.size + 1, 0, none⟩ = some (.int .i64 W) := K1.out.at_ 0 rfl
  have q11 : w2.cell? ⟨w.heap.size + 1, 1, none⟩ = some (.int .i64 H) := K1.out.at_ 1 rfl
  have q12 : w2.cell? ⟨w.heap.size + 1, 2, none⟩ = some (.slice A2 l2.length c2) := K1.out.at_ 2 rfl
  have q20 : w2.cell? ⟨w.heap.size + 2, 0, none⟩ = some (.int .i64 W) := K2.out.at_ 0 rfl
  have q21 : w2.cell? ⟨w.heap.size + 2, 1, none⟩ = some (.int .i64 H) := K2.out.at_ 1 rfl
  have q22 : w2.cell? ⟨w.heap.size + 2, 2, none⟩ = some (.slice A3 l3.length c3) := K2.out.at_ 2 rfl
  have q30 : w2.cell? ⟨w.heap.size + 3, 0, none⟩ = some (.int .i64 W) := K3.out.at_ 0 rfl
  have q31 : w2.cell? ⟨w.heap.size + 3, 1, none⟩ = some (.int .i64 H) := K3.out.at_ 1 rfl
  have q32 : w2.cell? ⟨w.heap.size + 3, 2, none⟩ = some (.slice A4 l4.length c4) := K3.out.at_ 2 rfl
  go_wp2_with fail
  refine (hC3.out _ O3.out).mono ?_
  rintro e w3 ⟨rfl, hb⟩
  clear q00 q01 q02
  clear q10 q11 q12
  clear q20 q21 q22
  clear q30 q31 q32
  replace O1 := Lib.hid (O1.out.below hb)
  replace O2 := Lib.hid (O2.out.below hb)
  replace O3 := Lib.hid (O3.out.below hb)
  replace O4 := Lib.hid (O4.out.below hb)
  replace K0 := Lib.hid (K0.out.keep hb)
  replace K1 := Lib.hid (K1.out.keep hb)
  replace K2 := Lib.hid (K2.out.keep hb)
  replace K3 := Lib.hid (K3.out.keep hb)
  replace K4 := Lib.hid (K4.out.keep hb)
  replace HB := Lib.hid (below_mono HB.out hb)
  clear hb
  have q00 : w3.cell? ⟨w.heap.size, 0, none⟩ = some (.int .i64 W) := K0.out.at_ 0 rfl
  have q01 : w3.cell? ⟨w.heap.size, 1, none⟩ = some (.int .i64 H) := K0.out.at_ 1 rfl
  have q02 : w3.cell? ⟨w.heap.size, 2, none⟩ = some (.slice A1 l1.length c1) := K0.out.at_ 2 rfl
  have q10 : w3.cell? ⟨w.heap.size + 1, 0, none⟩ = some (.int .i64 W) := K1.out.at_ 0 rfl
  have q11 : w3.cell? ⟨w.heap.size + 1, 1, none⟩ = some (.int .i64 H) := K1.out.at_ 1 rfl
  have q12 : w3.cell? ⟨w.heap.size + 1, 2, none⟩ = some (.slice A2 l2.length c2) := K1.out.at_ 2 rfl
  have q20 : w3.cell? ⟨w.heap.size + 2, 0, none⟩ = some (.int .i64 W) := K2.out.at_ 0 rfl
  have q21 : w3.cell? ⟨w.heap.size + 2, 1, none⟩ = some (.int .i64 H) := K2.out.at_ 1 rfl
  have q22 : w3.cell? ⟨w.heap.size + 2, 2, none⟩ = some (.slice A3 l3.length c3) := K2.out.at_ 2 rfl
  have q30 : w3.cell? ⟨w.heap.size + 3, 0, none⟩ = some (.int .i64 W) := K3.out.at_ 0 rfl
  have q31 : w3.cell? ⟨w.heap.size + 3, 1, none⟩ = some (.int .i64 H) := K3.out.at_ 1 rfl
  have q32 : w3.cell? ⟨w.heap.size + 3, 2, none⟩ = some (.slice A4 l4.length c4) := K3.out.at_ 2 rfl
  go_wp2_with fail
  refine (hC4.out _ O4.out).mono ?_
  rintro e w4 ⟨rfl, hb⟩
  clear q00 q01 q02
  clear q10 q11 q12
  clear q20 q21 q22
  clear q30 q31 q32
  replace O1 := Lib.hid (O1.out.below hb)
  replace O2 := Lib.hid (O2.out.below hb)
  replace O3 := Lib.hid (O3.out.below hb)
  replace O4 := Lib.hid (O4.out.below hb)
  replace K0 := Lib.hid (K0.out.keep hb)
  replace K1 := Lib.hid (K1.out.keep hb)
  replace K2 := Lib.hid (K2.out.keep hb)
  replace K3 := Lib.hid (K3.out.keep hb)
  replace K4 := Lib.hid (K4.out.keep hb)
  replace HB := Lib.hid (below_mono HB.out hb)
  clear hb
  have q00 : w4.cell? ⟨w.heap.size, 0, none⟩ = some (.int .i64 W) := K0.out.at_ 0 rfl
  have q01 : w4.cell? ⟨w.heap.size, 1, none⟩ = some (.int .i64 H) := K0.out.at_ 1 rfl
  have q02 : w4.cell? ⟨w.heap.size, 2, none⟩ = some (.slice A1 l1.length c1) := K0.out.at_ 2 rfl
  have q10 : w4.cell? ⟨w.heap.size + 1, 0, none⟩ = some (.int .i64 W) := K1.out.at_ 0 rfl
  have q11 : w4.cell? ⟨w.heap.size + 1, 1, none⟩ = some (.int .i64 H) := K1.out.at_ 1 rfl
  have q12 : w4.cell? ⟨w.heap.size + 1, 2, none⟩ = some (.slice A2 l2.length c2) := K1.out.at_ 2 rfl
  have q20 : w4.cell? ⟨w.heap.size + 2, 0, none⟩ = some (.int .i64 W) := K2.out.at_ 0 rfl
  have q21 : w4.cell? ⟨w.heap.size + 2, 1, none⟩ = some (.int .i64 H) := K2.out.at_ 1 rfl
  have q22 : w4.cell? ⟨w.heap.size + 2, 2, none⟩ = some (.slice A3 l3.length c3) := K2.out.at_ 2 rfl
  have q30 : w4.cell? ⟨w.heap.size + 3, 0, none⟩ = some (.int .i64 W) := K3.out.at_ 0 rfl
  have q31 : w4.cell? ⟨w.heap.size + 3, 1, none⟩ = some (.int .i64 H) := K3.out.at_ 1 rfl
  have q32 : w4.cell? ⟨w.heap.size + 3, 2, none⟩ = some (.slice A4 l4.length c4) := K3.out.at_ 2 rfl
  go_wp2_with fail
  refine (hA2.out _).mono ?_
  rintro e w5 ⟨rfl, hb⟩
  clear q00 q01 q02
  clear q10 q11 q12
  clear q20 q21 q22
  clear q30 q31 q32
  replace O1 := Lib.hid (O1.out.below hb)
  replace O2 := Lib.hid (O2.out.below hb)
  replace O3 := Lib.hid (O3.out.below hb)
  replace O4 := Lib.hid (O4.out.below hb)
  replace K0 := Lib.hid (K0.out.keep hb)
  replace K1 := Lib.hid (K1.out.keep hb)
  replace K2 := Lib.hid (K2.out.keep hb)
  replace K3 := Lib.hid (K3.out.keep hb)
  replace K4 := Lib.hid (K4.out.keep hb)
  replace HB := Lib.hid (below_mono HB.out hb)
  clear hb
  have q00 : w5.cell? ⟨w.heap.size, 0, none⟩ = some (.int .i64 W) := K0.out.at_ 0 rfl
  have q01 : w5.cell? ⟨w.heap.size, 1, none⟩ = some (.int .i64 H) := K0.out.at_ 1 rfl
  have q02 : w5.cell? ⟨w.heap.size, 2, none⟩ = some (.slice A1 l1.length c1) := K0.out.at_ 2 rfl
  have q10 : w5.cell? ⟨w.heap.size + 1, 0, none⟩ = some (.int .i64 W) := K1.out.at_ 0 rfl
  have q11 : w5.cell? ⟨w.heap.size + 1, 1, none⟩ = some (.int .i64 H) := K1.out.at_ 1 rfl
  have q12 : w5.cell? ⟨w.heap.size + 1, 2, none⟩ = some (.slice A2 l2.length c2) := K1.out.at_ 2 rfl
  have q20 : w5.cell? ⟨w.heap.size + 2, 0, none⟩ = some (.int .i64 W) := K2.out.at_ 0 rfl
  have q21 : w5.cell? ⟨w.heap.size + 2, 1, none⟩ = some (.int .i64 H) := K2.out.at_ 1 rfl
  have q22 : w5.cell? ⟨w.heap.size + 2, 2, none⟩ = some (.slice A3 l3.length c3) := K2.out.at_ 2 rfl
  have q30 : w5.cell? ⟨w.heap.size + 3, 0, none⟩ = some (.int .i64 W) := K3.out.at_ 0 rfl
  have q31 : w5.cell? ⟨w.heap.size + 3, 1, none⟩ = some (.int .i64 H) := K3.out.at_ 1 rfl
  have q32 : w5.cell? ⟨w.heap.size + 3, 2, none⟩ = some (.slice A4 l4.length c4) := K3.out.at_ 2 rfl
  go_wp2_with fail
  refine (hA3.out _).mono ?_
  rintro e w6 ⟨rfl, hb⟩
  clear q00 q01 q02
  clear q10 q11 q12
  clear q20 q21 q22
  clear q30 q31 q32
  replace O1 := Lib.hid (O1.out.below hb)
  replace O2 := Lib.hid (O2.out.below hb)
  replace O3 := Lib.hid (O3.out.below hb)
  replace O4 := Lib.hid (O4.out.below hb)
  replace K0 := Lib.hid (K0.out.keep hb)
  replace K1 := Lib.hid (K1.out.keep hb)
  replace K2 := Lib.hid (K2.out.keep hb)
  replace K3 := Lib.hid (K3.out.keep hb)
  replace K4 := Lib.hid (K4.out.keep hb)
  replace HB := Lib.hid (below_mono HB.out hb)
  clear hb
  have q00 : w6.cell? ⟨w.heap.size, 0, none⟩ = some (.int .i64 W) := K0.out.at_ 0 rfl
  have q01 : w6.cell? ⟨w.heap.size, 1, none⟩ = some (.int .i64 H) := K0.out.at_ 1 rfl
  have q02 : w6.cell? ⟨w.heap.size, 2, none⟩ = some (.slice A1 l1.length c1) := K0.out.at_ 2 rfl
  have q10 : w6.cell? ⟨w.heap.size + 1, 0, none⟩ = some (.int .i64 W) := K1.out.at_ 0 rfl
  have q11 : w6.cell? ⟨w.heap.size + 1, 1, none⟩ = some (.int .i64 H) := K1.out.at_ 1 rfl
  have q12 : w6.cell? ⟨w.heap.size + 1, 2, none⟩ = some (.slice A2 l2.length c2) := K1.out.at_ 2 rfl
  have q20 : w6.cell? ⟨w.heap.size + 2, 0, none⟩ = some (.int .i64 W) := K2.out.at_ 0 rfl
  have q21 : w6.cell? ⟨w.heap.size + 2, 1, none⟩ = some (.int .i64 H) := K2.out.at_ 1 rfl
  have q22 : w6.cell? ⟨w.heap.size + 2, 2, none⟩ = some (.slice A3 l3.length c3) := K2.out.at_ 2 rfl
  have q30 : w6.cell? ⟨w.heap.size + 3, 0, none⟩ = some (.int .i64 W) := K3.out.at_ 0 rfl
  have q31 : w6.cell? ⟨w.heap.size + 3, 1, none⟩ = some (.int .i64 H) := K3.out.at_ 1 rfl
  have q32 : w6.cell? ⟨w.heap.size + 3, 2, none⟩ = some (.slice A4 l4.length c4) := K3.out.at_ 2 rfl
  go_wp2_with fail
  refine (hA4.out _).mono ?_
  rintro e w7 ⟨rfl, hb⟩
  clear q00 q01 q02
  clear q10 q11 q12
  clear q20 q21 q22
  clear q30 q31 q32
  replace O1 := Lib.hid (O1.out.below hb)
  replace O2 := Lib.hid (O2.out.below hb)
  replace O3 := Lib.hid (O3.out.below hb)
  replace O4 := Lib.hid (O4.out.below hb)
  replace K0 := Lib.hid (K0.out.keep hb)
  replace K1 := Lib.hid (K1.out.keep hb)
  replace K2 := Lib.hid (K2.out.keep hb)
  replace K3 := Lib.hid (K3.out.keep hb)
  replace K4 := Lib.hid (K4.out.keep hb)
  replace HB := Lib.hid (below_mono HB.out hb)
  clear hb
  have q00 : w7.cell? ⟨w.heap.size, 0, none⟩ = some (.int .i64 W) := K0.out.at_ 0 rfl
  have q01 : w7.cell? ⟨w.heap.size, 1, none⟩ = some (.int .i64 H) := K0.out.at_ 1 rfl
  have q02 : w7.cell? ⟨w.heap.size, 2, none⟩ = some (.slice A1 l1.length c1) := K0.out.at_ 2 rfl
  have q10 : w7.cell? ⟨w.heap.size + 1, 0, none⟩ = some (.int .i64 W) := K1.out.at_ 0 rfl
  have q11 : w7.cell? ⟨w.heap.size + 1, 1, none⟩ = some (.int .i64 H) := K1.out.at_ 1 rfl
  have q12 : w7.cell? ⟨w.heap.size + 1, 2, none⟩ = some (.slice A2 l2.length c2) := K1.out.at_ 2 rfl
  have q20 : w7.cell? ⟨w.heap.size + 2, 0, none⟩ = some (.int .i64 W) := K2.out.at_ 0 rfl
  have q21 : w7.cell? ⟨w.heap.size + 2, 1, none⟩ = some (.int .i64 H) := K2.out.at_ 1 rfl
  have q22 : w7.cell? ⟨w.heap.size + 2, 2, none⟩ = some (.slice A3 l3.length c3) := K2.out.at_ 2 rfl
  have q30 : w7.cell? ⟨w.heap.size + 3, 0, none⟩ = some (.int .i64 W) := K3.out.at_ 0 rfl
  have q31 : w7.cell? ⟨w.heap.size + 3, 1, none⟩ = some (.int .i64 H) := K3.out.at_ 1 rfl
  have q32 : w7.cell? ⟨w.heap.size + 3, 2, none⟩ = some (.slice A4 l4.length c4) := K3.out.at_ 2 rfl
  go_wp2_with fail
  refine (hT.out _ O4.out).mono ?_
  rintro e w8 ⟨rfl, hb⟩
  clear q00 q01 q02
  clear q10 q11 q12
  clear q20 q21 q22
  clear q30 q31 q32
  replace O1 := Lib.hid (O1.out.below hb)
  replace O2 := Lib.hid (O2.out.below hb)
  replace O3 := Lib.hid (O3.out.below hb)
  replace O4 := Lib.hid (O4.out.below hb)
  replace K0 := Lib.hid (K0.out.keep hb)
  replace K1 := Lib.hid (K1.out.keep hb)
  replace K2 := Lib.hid (K2.out.keep hb)
  replace K3 := Lib.hid (K3.out.keep hb)
  replace K4 := Lib.hid (K4.out.keep hb)
  replace HB := Lib.hid (below_mono HB.out hb)
  clear hb
  have q00 : w8.cell? ⟨w.heap.size, 0, none⟩ = some (.int .i64 W) := K0.out.at_ 0 rfl
  have q01 : w8.cell? ⟨w.heap.size, 1, none⟩ = some (.int .i64 H) := K0.out.at_ 1 rfl
  have q02 : w8.cell? ⟨w.heap.size, 2, none⟩ = some (.slice A1 l1.length c1) := K0.out.at_ 2 rfl
  have q10 : w8.cell? ⟨w.heap.size + 1, 0, none⟩ = some (.int .i64 W) := K1.out.at_ 0 rfl
  have q11 : w8.cell? ⟨w.heap.size + 1, 1, none⟩ = some (.int .i64 H) := K1.out.at_ 1 rfl
  have q12 : w8.cell? ⟨w.heap.size + 1, 2, none⟩ = some (.slice A2 l2.length c2) := K1.out.at_ 2 rfl
  have q20 : w8.cell? ⟨w.heap.size + 2, 0, none⟩ = some (.int .i64 W) := K2.out.at_ 0 rfl
  have q21 : w8.cell? ⟨w.heap.size + 2, 1, none⟩ = some (.int .i64 H) := K2.out.at_ 1 rfl
  have q22 : w8.cell? ⟨w.heap.size + 2, 2, none⟩ = some (.slice A3 l3.length c3) := K2.out.at_ 2 rfl
  have q30 : w8.cell? ⟨w.heap.size + 3, 0, none⟩ = some (.int .i64 W) := K3.out.at_ 0 rfl
  have q31 : w8.cell? ⟨w.heap.size + 3, 1, none⟩ = some (.int .i64 H) := K3.out.at_ 1 rfl
  have q32 : w8.cell? ⟨w.heap.size + 3, 2, none⟩ = some (.slice A4 l4.length c4) := K3.out.at_ 2 rfl
  go_wp2_with fail
  refine (hO1.out _).mono ?_
  rintro e w9 ⟨A5, c5, A6, c6, rfl, hs5, hs6, hb⟩
  (try dsimp only at hs5 hs6)
  (try dsimp only)
  clear q00 q01 q02
  clear q10 q11 q12
  clear q20 q21 q22
  clear q30 q31 q32
  replace O1 := Lib.hid (O1.out.below hb)
  replace O2 := Lib.hid (O2.out.below hb)
  replace O3 := Lib.hid (O3.out.below hb)
  replace O4 := Lib.hid (O4.out.below hb)
  replace K0 := Lib.hid (K0.out.keep hb)
  replace K1 := Lib.hid (K1.out.keep hb)
  replace K2 := Lib.hid (K2.out.keep hb)
  replace K3 := Lib.hid (K3.out.keep hb)
  replace K4 := Lib.hid (K4.out.keep hb)
  replace HB := Lib.hid (below_mono HB.out hb)
  clear hb
  have q00 : w9.cell? ⟨w.heap.size, 0, none⟩ = some (.int .i64 W) := K0.out.at_ 0 rfl
  have q01 : w9.cell? ⟨w.heap.size, 1, none⟩ = some (.int .i64 H) := K0.out.at_ 1 rfl
  have q02 : w9.cell? ⟨w.heap.size, 2, none⟩ = some (.slice A1 l1.length c1) := K0.out.at_ 2 rfl
  have q10 : w9.cell? ⟨w.heap.size + 1, 0, none⟩ = some (.int .i64 W) := K1.out.at_ 0 rfl
  have q11 : w9.cell? ⟨w.heap.size + 1, 1, none⟩ = some (.int .i64 H) := K1.out.at_ 1 rfl
  have q12 : w9.cell? ⟨w.heap.size + 1, 2, none⟩ = some (.slice A2 l2.length c2) := K1.out.at_ 2 rfl
  have q20 : w9.cell? ⟨w.heap.size + 2, 0, none⟩ = some (.int .i64 W) := K2.out.at_ 0 rfl
  have q21 : w9.cell? ⟨w.heap.size + 2, 1, none⟩ = some (.int .i64 H) := K2.out.at_ 1 rfl
  have q22 : w9.cell? ⟨w.heap.size + 2, 2, none⟩ = some (.slice A3 l3.length c3) := K2.out.at_ 2 rfl
  have q30 : w9.cell? ⟨w.heap.size + 3, 0, none⟩ = some (.int .i64 W) := K3.out.at_ 0 rfl
  have q31 : w9.cell? ⟨w.heap.size + 3, 1, none⟩ = some (.int .i64 H) := K3.out.at_ 1 rfl
  have q32 : w9.cell? ⟨w.heap.size + 3, 2, none⟩ = some (.slice A4 l4.length c4) := K3.out.at_ 2 rfl
  have M1 : Hid (Sl w9 A5 lr c5) := hs5
  have M2 : Hid (Sl w9 A6 ls c6) := hs6
  clear hs5 hs6
  have hz9 : w.heap.size + 4 < w9.heap.size := K4.out.lt
  go_wp2_with fail
  refine (hO2.out _).mono ?_
  rintro e w10 ⟨A7, c7, A8, c8, rfl, hs7, hs8, hb'⟩
  (try dsimp only at hs7 hs8)
  (try dsimp only)
  have KM : Hid (BlkV w10 w9.heap.size 67 #[.bool nr, .slice A5 lr.length c5, .bool ns, .slice A6 ls.length c6]) := (BlkV.fresh rfl _ _).keep hb'
  have hb := below_mono (blw1 w9 _) hb'
  clear hb'
  replace M1 := Lib.hid (M1.out.below hb)
  replace M2 := Lib.hid (M2.out.below hb)
  clear q00 q01 q02
  clear q10 q11 q12
  clear q20 q21 q22
  clear q30 q31 q32
  replace O1 := Lib.hid (O1.out.below hb)
  replace O2 := Lib.hid (O2.out.below hb)
  replace O3 := Lib.hid (O3.out.below hb)
  replace O4 := Lib.hid (O4.out.below hb)
  replace K0 := Lib.hid (K0.out.keep hb)
  replace K1 := Lib.hid (K1.out.keep hb)
  replace K2 := Lib.hid (K2.out.keep hb)
  replace K3 := Lib.hid (K3.out.keep hb)
  replace K4 := Lib.hid (K4.out.keep hb)
  replace HB := Lib.hid (below_mono HB.out hb)
  clear hb
  have q00 : w10.cell? ⟨w.heap.size, 0, none⟩ = some (.int .i64 W) := K0.out.at_ 0 rfl
  have q01 : w10.cell? ⟨w.heap.size, 1, none⟩ = some (.int .i64 H) := K0.out.at_ 1 rfl
  have q02 : w10.cell? ⟨w.heap.size, 2, none⟩ = some (.slice A1 l1.length c1) := K0.out.at_ 2 rfl
  have q10 : w10.cell? ⟨w.heap.size + 1, 0, none⟩ = some (.int .i64 W) := K1.out.at_ 0 rfl
  have q11 : w10.cell? ⟨w.heap.size + 1, 1, none⟩ = some (.int .i64 H) := K1.out.at_ 1 rfl
  have q12 : w10.cell? ⟨w.heap.size + 1, 2, none⟩ = some (.slice A2 l2.length c2) := K1.out.at_ 2 rfl
  have q20 : w10.cell? ⟨w.heap.size + 2, 0, none⟩ = some (.int .i64 W) := K2.out.at_ 0 rfl
  have q21 : w10.cell? ⟨w.heap.size + 2, 1, none⟩ = some (.int .i64 H) := K2.out.at_ 1 rfl
  have q22 : w10.cell? ⟨w.heap.size + 2, 2, none⟩ = some (.slice A3 l3.length c3) := K2.out.at_ 2 rfl
  have q30 : w10.cell? ⟨w.heap.size + 3, 0, none⟩ = some (.int .i64 W) := K3.out.at_ 0 rfl
  have q31 : w10.cell? ⟨w.heap.size + 3, 1, none⟩ = some (.int .i64 H) := K3.out.at_ 1 rfl
  have q32 : w10.cell? ⟨w.heap.size + 3, 2, none⟩ = some (.slice A4 l4.length c4) := K3.out.at_ 2 rfl
  have N1 : Hid (Sl w10 A7 lp c7) := hs7
  have N2 : Hid (Sl w10 A8 lq c8) := hs8
  clear hs7 hs8
  have hz10 : w9.heap.size < w10.heap.size := KM.out.lt
  have hza0 : w.heap.size < w10.heap.size := K0.out.lt
  have hza1 : w.heap.size + 1 < w10.heap.size := K1.out.lt
  have hza2 : w.heap.size + 2 < w10.heap.size := K2.out.lt
  have hza3 : w.heap.size + 3 < w10.heap.size := K3.out.lt
  have hza4 : w.heap.size + 4 < w10.heap.size := K4.out.lt
  go_wp2_with fail
  generalize hwy : w10.alloc (.cells #[.bool np, .slice A7 lp.length c7, .bool nq, .slice A8 lq.length c8] 67) = wy at *
  have hb : Below w10.heap.size w10 wy := by rw [← hwy]; exact blw1 _ _
  have KP : Hid (BlkV wy w10.heap.size 67 #[.bool np, .slice A7 lp.length c7, .bool nq, .slice A8 lq.length c8]) := by rw [← hwy]; exact BlkV.fresh rfl _ _
  have hsy : Hid (wy.heap.size = w10.heap.size + 1) := by rw [← hwy]; simp [Hid]
  clear hwy
  replace KM := Lib.hid (KM.out.keep hb)
  replace M1 := Lib.hid (M1.out.below hb)
  replace M2 := Lib.hid (M2.out.below hb)
  replace N1 := Lib.hid (N1.out.below hb)
  replace N2 := Lib.hid (N2.out.below hb)
  clear q00 q01 q02
  clear q10 q11 q12
  clear q20 q21 q22
  clear q30 q31 q32
  replace O1 := Lib.hid (O1.out.below hb)
  replace O2 := Lib.hid (O2.out.below hb)
  replace O3 := Lib.hid (O3.out.below hb)
  replace O4 := Lib.hid (O4.out.below hb)
  replace K0 := Lib.hid (K0.out.keep hb)
  replace K1 := Lib.hid (K1.out.keep hb)
  replace K2 := Lib.hid (K2.out.keep hb)
  replace K3 := Lib.hid (K3.out.keep hb)
  replace K4 := Lib.hid (K4.out.keep hb)
  replace HB := Lib.hid (below_mono HB.out hb)
  clear hb
  have HI0 : Hid (RI wy (wy.alloc (.cells #[.int .i64 W, .int .i64 H, .slice none 0 0] 24)) W H (.slice none 0 0) (.slice none 0 0) [] []) := ⟨blw1 _ _, BlkV.fresh rfl _ _, OwV.nil0 _ _ _, OwV.nil0 _ _ _⟩
  generalize hq : wy.alloc _ = wq at *
  clear hq
  go_loopw [22, 23] (fun s22 s23 wr => ∃ (k : Nat) (v : Value), k ≤ l1.length ∧ s23 = .int .i64 k ∧ RI wy wr W H v s22 (pxL E D l1 l2 l3 l4 k) (bdL l4 k) ∧ ∀ i, i < k → erAt E D l1 l2 l3 l4 i = 0) (fun _ v _ => l1.length - (intOf v).toNat)
  case atStart => exact ⟨0, .slice none 0 0, Nat.zero_le _, rfl, HI0.out, fun i hi => absurd hi (Nat.not_lt_zero i)⟩
  case round =>
    obtain ⟨k, v, hk, rfl, hI, hE⟩ := hrel
    have HI := Lib.hid hI
    have HE := Lib.hid hE
    clear hI hE HI0
    have hl1' := hl1.out
    have Hlb : Hid ((cB (bdL l4 k)).length = k) := by rw [Hid, cB_length, bdL_len]
    have Hlp : Hid ((cI (pxL E D l1 l2 l3 l4 k)).length = k) := by rw [Hid, cI_length, pxL_len]
    have Hlb1 : Hid (∀ b, (cB (bdL l4 k) ++ [Value.bool b]).length = k + 1) := fun b => by rw [List.length_append, Hlb.out]; rfl
    have Hlp1 : Hid (∀ x, (cI (pxL E D l1 l2 l3 l4 k) ++ [Value.int .i64 x]).length = k + 1) := fun x => by rw [List.length_append, Hlp.out]; rfl
    by_cases hlt : k < l1.length
    · have hk2 : k < l2.length := by have := e2.out; omega
      have hk3 : k < l3.length := by have := e3.out; omega
      have hk4 : k < l4.length := by have := e4.out; omega
      obtain ⟨bb1, o1, rfl, -, x1⟩ := O1.out.atD hlt
      obtain ⟨bb2, o2, rfl, -, x2⟩ := O2.out.atD hk2
      obtain ⟨bb3, o3, rfl, -, x3⟩ := O3.out.atD hk3
      obtain ⟨bb4, o4, rfl, -, x4⟩ := O4.out.atD hk4
      by_cases hx : 0 < l4.getD k 0
      · obtain ⟨R, hCB, hPX⟩ := hX.out k hx
        replace hCB := Lib.hid hCB
        replace hPX := Lib.hid hPX
        obtain ⟨⟨n5, l5⟩, ⟨n6, l6⟩⟩ := R
        have EB : Hid (bdAt l4 k = false) := decide_eq_false (by omega)
        have EP : Hid (pxAt E D l1 l2 l3 l4 k = pixR (zAt E D l1 l2 l3 l4 k)) := if_neg (by omega)
        have EE : Hid (erAt E D l1 l2 l3 l4 k = pixE (zAt E D l1 l2 l3 l4 k)) := if_neg (by omega)
        have HH : Hid (erAt E D l1 l2 l3 l4 k ≠ 0 → erL E D l1 l2 l3 l4 l1.length = true) := erL_hit hlt
        have t5 : decide (l4.getD k 0 ≤ 0) = false := decide_eq_false (by omega)
        clear hX hx
        generalize l1.getD k 0 = y1 at *
        generalize l2.getD k 0 = y2 at *
        generalize l3.getD k 0 = y3 at *
        generalize l4.getD k 0 = y4 at *
        generalize zAt E D l1 l2 l3 l4 k = z at *
        have hpe : pixE z = 0 ∨ pixE z = 16 := by unfold pixE; split <;> simp
        generalize pixE z = pe at *
        rcases hpe with rfl | rfl
        · clear HH
          have p0 : wr.cell? ⟨w.heap.size, 2, none⟩ = some (.slice (some ⟨bb1, o1, none⟩) l1.length c1) := (K0.out.below HI.out.hb K0.out.lt).at_ 2 rfl
          have p3 : wr.cell? ⟨w.heap.size + 3, 2, none⟩ = some (.slice (some ⟨bb4, o4, none⟩) l4.length c4) := (K3.out.below HI.out.hb K3.out.lt).at_ 2 rfl
          have y4c : wr.cell? ⟨bb4, o4 + k, none⟩ = some (.int .i64 y4) := (HI.out.hb.cell (p := ⟨bb4, o4 + k, none⟩) (lt_of_cell x4)).trans x4
          go_wp2_with (at_builtin; refine wpList_appV rfl _ _ 27 rfl (wy.heap.size + 1) 4 ib (.bool false) 1 Tryz.underlying27 hib hib0 rfl hib1 hib2 _ (cB (bdL l4 k)) rfl HI.out.ob (.bool false) rfl 4 rfl (by rw [Hlb.out]; omega) (by rw [Hlb.out]; omega) HI.out.lt ?_; intro A9 c9 v1 hown hgrow _; rw [Hlb1.out] at hown ⊢; have HI1 := Lib.hid (RI.appB HI.out false hgrow hown); clear hown hgrow p0 p3 y4c; have P0 : v1.cell? ⟨w.heap.size, 2, none⟩ = some (.slice (some ⟨bb1, o1, none⟩) l1.length c1) := (K0.out.below HI1.out.hb K0.out.lt).at_ 2 rfl; have P1 : v1.cell? ⟨w.heap.size + 1, 2, none⟩ = some (.slice (some ⟨bb2, o2, none⟩) l2.length c2) := (K1.out.below HI1.out.hb K1.out.lt).at_ 2 rfl; have P2 : v1.cell? ⟨w.heap.size + 2, 2, none⟩ = some (.slice (some ⟨bb3, o3, none⟩) l3.length c3) := (K2.out.below HI1.out.hb K2.out.lt).at_ 2 rfl; have P3 : v1.cell? ⟨w.heap.size + 3, 2, none⟩ = some (.slice (some ⟨bb4, o4, none⟩) l4.length c4) := (K3.out.below HI1.out.hb K3.out.lt).at_ 2 rfl; have Y1c : v1.cell? ⟨bb1, o1 + k, none⟩ = some (.int .i64 y1) := (HI1.out.hb.cell (p := ⟨bb1, o1 + k, none⟩) (lt_of_cell x1)).trans x1; have Y2c : v1.cell? ⟨bb2, o2 + k, none⟩ = some (.int .i64 y2) := (HI1.out.hb.cell (p := ⟨bb2, o2 + k, none⟩) (lt_of_cell x2)).trans x2; have Y3c : v1.cell? ⟨bb3, o3 + k, none⟩ = some (.int .i64 y3) := (HI1.out.hb.cell (p := ⟨bb3, o3 + k, none⟩) (lt_of_cell x3)).trans x3; have Y4c : v1.cell? ⟨bb4, o4 + k, none⟩ = some (.int .i64 y4) := (HI1.out.hb.cell (p := ⟨bb4, o4 + k, none⟩) (lt_of_cell x4)).trans x4; have m0 : v1.cell? ⟨w9.heap.size, 0, none⟩ = some (.bool nr) := (KM.out.below HI1.out.hb KM.out.lt).at_ 0 rfl; have m1 : v1.cell? ⟨w9.heap.size, 1, none⟩ = some (.slice A5 lr.length c5) := (KM.out.below HI1.out.hb KM.out.lt).at_ 1 rfl; have m2 : v1.cell? ⟨w9.heap.size, 2, none⟩ = some (.bool ns) := (KM.out.below HI1.out.hb KM.out.lt).at_ 2 rfl; have m3 : v1.cell? ⟨w9.heap.size, 3, none⟩ = some (.slice A6 ls.length c6) := (KM.out.below HI1.out.hb KM.out.lt).at_ 3 rfl; have n0 : v1.cell? ⟨w10.heap.size, 0, none⟩ = some (.bool np) := (KP.out.below HI1.out.hb KP.out.lt).at_ 0 rfl; have n1 : v1.cell? ⟨w10.heap.size, 1, none⟩ = some (.slice A7 lp.length c7) := (KP.out.below HI1.out.hb KP.out.lt).at_ 1 rfl; have n2 : v1.cell? ⟨w10.heap.size, 2, none⟩ = some (.bool nq) := (KP.out.below HI1.out.hb KP.out.lt).at_ 2 rfl; have n3 : v1.cell? ⟨w10.heap.size, 3, none⟩ = some (.slice A8 lq.length c8) := (KP.out.below HI1.out.hb KP.out.lt).at_ 3 rfl)
          have JS : Hid (∀ X, RI wy X W H v (.slice A9 (k + 1) c9) (pxL E D l1 l2 l3 l4 k) (bdL l4 k ++ [false]) → X.cell? ⟨w.heap.size, 2, none⟩ = some (.slice (some ⟨bb1, o1, none⟩) l1.length c1) ∧ X.cell? ⟨w.heap.size + 1, 2, none⟩ = some (.slice (some ⟨bb2, o2, none⟩) l2.length c2) ∧ X.cell? ⟨w.heap.size + 2, 2, none⟩ = some (.slice (some ⟨bb3, o3, none⟩) l3.length c3) ∧ X.cell? ⟨w.heap.size + 3, 2, none⟩ = some (.slice (some ⟨bb4, o4, none⟩) l4.length c4) ∧ X.cell? ⟨bb1, o1 + k, none⟩ = some (.int .i64 y1) ∧ X.cell? ⟨bb2, o2 + k, none⟩ = some (.int .i64 y2) ∧ X.cell? ⟨bb3, o3 + k, none⟩ = some (.int .i64 y3) ∧ X.cell? ⟨bb4, o4 + k, none⟩ = some (.int .i64 y4) ∧ X.cell? ⟨w9.heap.size, 0, none⟩ = some (.bool nr) ∧ X.cell? ⟨w9.heap.size, 1, none⟩ = some (.slice A5 lr.length c5) ∧ X.cell? ⟨w9.heap.size, 2, none⟩ = some (.bool ns) ∧ X.cell? ⟨w9.heap.size, 3, none⟩ = some (.slice A6 ls.length c6) ∧ X.cell? ⟨w10.heap.size, 0, none⟩ = some (.bool np) ∧ X.cell? ⟨w10.heap.size, 1, none⟩ = some (.slice A7 lp.length c7) ∧ X.cell? ⟨w10.heap.size, 2, none⟩ = some (.bool nq) ∧ X.cell? ⟨w10.heap.size, 3, none⟩ = some (.slice A8 lq.length c8)) := fun X h => ⟨(K0.out.below h.hb K0.out.lt).at_ 2 rfl, (K1.out.below h.hb K1.out.lt).at_ 2 rfl, (K2.out.below h.hb K2.out.lt).at_ 2 rfl, (K3.out.below h.hb K3.out.lt).at_ 2 rfl, (h.hb.cell (p := ⟨bb1, o1 + k, none⟩) (lt_of_cell x1)).trans x1, (h.hb.cell (p := ⟨bb2, o2 + k, none⟩) (lt_of_cell x2)).trans x2, (h.hb.cell (p := ⟨bb3, o3 + k, none⟩) (lt_of_cell x3)).trans x3, (h.hb.cell (p := ⟨bb4, o4 + k, none⟩) (lt_of_cell x4)).trans x4, (KM.out.below h.hb KM.out.lt).at_ 0 rfl, (KM.out.below h.hb KM.out.lt).at_ 1 rfl, (KM.out.below h.hb KM.out.lt).at_ 2 rfl, (KM.out.below h.hb KM.out.lt).at_ 3 rfl, (KP.out.below h.hb KP.out.lt).at_ 0 rfl, (KP.out.below h.hb KP.out.lt).at_ 1 rfl, (KP.out.below h.hb KP.out.lt).at_ 2 rfl, (KP.out.below h.hb KP.out.lt).at_ 3 rfl⟩
          have HI2 : Hid (RI wy v1.drew W H v (.slice A9 (k + 1) c9) (pxL E D l1 l2 l3 l4 k) (bdL l4 k ++ [false])) := RI.call HI1.out (Below.refl _ _).drew
          have J0 := Lib.hid (JS.out _ HI2.out)
          clear P0 P1 P2 P3 Y1c Y2c Y3c Y4c m0 m1 m2 m3 n0 n1 n2 n3
          have N1d := Lib.hid (N1.out.below HI2.out.hb)
          have N2d := Lib.hid (N2.out.below HI2.out.hb)
          have M1d := Lib.hid (M1.out.below HI2.out.hb)
          have M2d := Lib.hid (M2.out.below HI2.out.hb)
          go_region_held3 (fun w' => w'.cell? ⟨w.heap.size, 2, none⟩ = some (.slice (some ⟨bb1, o1, none⟩) l1.length c1) ∧ w'.cell? ⟨w.heap.size + 1, 2, none⟩ = some (.slice (some ⟨bb2, o2, none⟩) l2.length c2) ∧ w'.cell? ⟨w.heap.size + 2, 2, none⟩ = some (.slice (some ⟨bb3, o3, none⟩) l3.length c3) ∧ w'.cell? ⟨w.heap.size + 3, 2, none⟩ = some (.slice (some ⟨bb4, o4, none⟩) l4.length c4) ∧ w'.cell? ⟨bb1, o1 + k, none⟩ = some (.int .i64 y1) ∧ w'.cell? ⟨bb2, o2 + k, none⟩ = some (.int .i64 y2) ∧ w'.cell? ⟨bb3, o3 + k, none⟩ = some (.int .i64 y3) ∧ w'.cell? ⟨bb4, o4 + k, none⟩ = some (.int .i64 y4) ∧ w'.cell? ⟨w9.heap.size, 0, none⟩ = some (.bool nr) ∧ w'.cell? ⟨w9.heap.size, 1, none⟩ = some (.slice A5 lr.length c5) ∧ w'.cell? ⟨w9.heap.size, 2, none⟩ = some (.bool ns) ∧ w'.cell? ⟨w9.heap.size, 3, none⟩ = some (.slice A6 ls.length c6) ∧ w'.cell? ⟨w10.heap.size, 0, none⟩ = some (.bool np) ∧ w'.cell? ⟨w10.heap.size, 1, none⟩ = some (.slice A7 lp.length c7) ∧ w'.cell? ⟨w10.heap.size, 2, none⟩ = some (.bool nq) ∧ w'.cell? ⟨w10.heap.size, 3, none⟩ = some (.slice A8 lq.length c8)) (first | with_reducible exact J2.out | with_reducible exact J1.out | with_reducible exact J0.out)
            (first | (go_at_call 57; (with_reducible refine (hCB.out v1.drew A7 A8 A5 A6 c7 c8 c5 c6 N1d.out N2d.out M1d.out M2d.out).mono ?_); rintro e v3 ⟨A11, c11, A12, c12, rfl, hs11, hs12, hb⟩; (try dsimp only at hs11); (try dsimp only at hs12); (try dsimp only); have HI4 := Lib.hid (RI.call HI2.out hb); have J1 := Lib.hid (JS.out _ HI4.out); replace hs11 := Lib.hid hs11; replace hs12 := Lib.hid hs12; clear hb) | (go_at_call 56; (with_reducible refine (hPX.out v3 A11 A12 c11 c12 hs11.out hs12.out).mono ?_); rintro e v4 ⟨rfl, hb⟩; have HI5 := Lib.hid (RI.call HI4.out hb); have J2 := Lib.hid (JS.out _ HI5.out); clear hb hs11 hs12))
          clear J0 J1 J2 JS
          have qx2 : v4.cell? ⟨w10.heap.size + 1, 2, none⟩ = some v := hsy.out ▸ HI5.out.kx.at_ 2 rfl
          go_wp2_with (at_builtin; refine wpList_appV rfl _ _ 22 rfl (wy.heap.size + 1) 2 ii (.int .i64 0) 8 Tryz.underlying22 hii hii0 rfl hii1 hii2 v (cI (pxL E D l1 l2 l3 l4 k)) rfl HI5.out.ow (.int .i64 (pixR z)) rfl 2 rfl (by rw [Hlp.out]; omega) (by rw [Hlp.out]; omega) HI5.out.lt ?_; intro A10 c10 v5 hown hgrow _; rw [Hlp1.out] at hown ⊢; have HX2 := Lib.hid (RI.boxI HI5.out hgrow); have HIE := Lib.hid (RI.appI HI5.out (pixR z) hgrow hown); clear hown hgrow qx2; have qx3 : v5.cell? ⟨w10.heap.size + 1, 2, none⟩ = some v := hsy.out ▸ HX2.out.at_ 2 rfl; have fx3 : v5.frozen? ⟨w10.heap.size + 1, 2, none⟩ = false := hsy.out ▸ HX2.out.frozen 2)
          go_roundw
          case rel => exact ⟨k + 1, _, by omega, by go_num, by rw [pxL_succ, bdL_succ, EP.out, EB.out, ← hsy.out]; exact HIE.out, fun i hi => by rcases Nat.lt_or_ge i k with h1 | h1 <;> first | exact HE.out i h1 | (rw [show i = k by omega]; exact EE.out)⟩
          case measure => simp [intOf]; omega
        · have HR : Hid (res = ⟨0, 0, [], [], 16⟩) := by have q := hres.out; rw [if_pos (HH.out (by rw [EE.out]; decide))] at q; exact q.symm
          have p0 : wr.cell? ⟨w.heap.size, 2, none⟩ = some (.slice (some ⟨bb1, o1, none⟩) l1.length c1) := (K0.out.below HI.out.hb K0.out.lt).at_ 2 rfl
          have p3 : wr.cell? ⟨w.heap.size + 3, 2, none⟩ = some (.slice (some ⟨bb4, o4, none⟩) l4.length c4) := (K3.out.below HI.out.hb K3.out.lt).at_ 2 rfl
          have y4c : wr.cell? ⟨bb4, o4 + k, none⟩ = some (.int .i64 y4) := (HI.out.hb.cell (p := ⟨bb4, o4 + k, none⟩) (lt_of_cell x4)).trans x4
          go_wp2_with (at_builtin; refine wpList_appV rfl _ _ 27 rfl (wy.heap.size + 1) 4 ib (.bool false) 1 Tryz.underlying27 hib hib0 rfl hib1 hib2 _ (cB (bdL l4 k)) rfl HI.out.ob (.bool false) rfl 4 rfl (by rw [Hlb.out]; omega) (by rw [Hlb.out]; omega) HI.out.lt ?_; intro A9 c9 v1 hown hgrow _; rw [Hlb1.out] at hown ⊢; have HI1 := Lib.hid (RI.appB HI.out false hgrow hown); clear hown hgrow p0 p3 y4c; have P0 : v1.cell? ⟨w.heap.size, 2, none⟩ = some (.slice (some ⟨bb1, o1, none⟩) l1.length c1) := (K0.out.below HI1.out.hb K0.out.lt).at_ 2 rfl; have P1 : v1.cell? ⟨w.heap.size + 1, 2, none⟩ = some (.slice (some ⟨bb2, o2, none⟩) l2.length c2) := (K1.out.below HI1.out.hb K1.out.lt).at_ 2 rfl; have P2 : v1.cell? ⟨w.heap.size + 2, 2, none⟩ = some (.slice (some ⟨bb3, o3, none⟩) l3.length c3) := (K2.out.below HI1.out.hb K2.out.lt).at_ 2 rfl; have P3 : v1.cell? ⟨w.heap.size + 3, 2, none⟩ = some (.slice (some ⟨bb4, o4, none⟩) l4.length c4) := (K3.out.below HI1.out.hb K3.out.lt).at_ 2 rfl; have Y1c : v1.cell? ⟨bb1, o1 + k, none⟩ = some (.int .i64 y1) := (HI1.out.hb.cell (p := ⟨bb1, o1 + k, none⟩) (lt_of_cell x1)).trans x1; have Y2c : v1.cell? ⟨bb2, o2 + k, none⟩ = some (.int .i64 y2) := (HI1.out.hb.cell (p := ⟨bb2, o2 + k, none⟩) (lt_of_cell x2)).trans x2; have Y3c : v1.cell? ⟨bb3, o3 + k, none⟩ = some (.int .i64 y3) := (HI1.out.hb.cell (p := ⟨bb3, o3 + k, none⟩) (lt_of_cell x3)).trans x3; have Y4c : v1.cell? ⟨bb4, o4 + k, none⟩ = some (.int .i64 y4) := (HI1.out.hb.cell (p := ⟨bb4, o4 + k, none⟩) (lt_of_cell x4)).trans x4; have m0 : v1.cell? ⟨w9.heap.size, 0, none⟩ = some (.bool nr) := (KM.out.below HI1.out.hb KM.out.lt).at_ 0 rfl; have m1 : v1.cell? ⟨w9.heap.size, 1, none⟩ = some (.slice A5 lr.length c5) := (KM.out.below HI1.out.hb KM.out.lt).at_ 1 rfl; have m2 : v1.cell? ⟨w9.heap.size, 2, none⟩ = some (.bool ns) := (KM.out.below HI1.out.hb KM.out.lt).at_ 2 rfl; have m3 : v1.cell? ⟨w9.heap.size, 3, none⟩ = some (.slice A6 ls.length c6) := (KM.out.below HI1.out.hb KM.out.lt).at_ 3 rfl; have n0 : v1.cell? ⟨w10.heap.size, 0, none⟩ = some (.bool np) := (KP.out.below HI1.out.hb KP.out.lt).at_ 0 rfl; have n1 : v1.cell? ⟨w10.heap.size, 1, none⟩ = some (.slice A7 lp.length c7) := (KP.out.below HI1.out.hb KP.out.lt).at_ 1 rfl; have n2 : v1.cell? ⟨w10.heap.size, 2, none⟩ = some (.bool nq) := (KP.out.below HI1.out.hb KP.out.lt).at_ 2 rfl; have n3 : v1.cell? ⟨w10.heap.size, 3, none⟩ = some (.slice A8 lq.length c8) := (KP.out.below HI1.out.hb KP.out.lt).at_ 3 rfl)
          have JS : Hid (∀ X, RI wy X W H v (.slice A9 (k + 1) c9) (pxL E D l1 l2 l3 l4 k) (bdL l4 k ++ [false]) → X.cell? ⟨w.heap.size, 2, none⟩ = some (.slice (some ⟨bb1, o1, none⟩) l1.length c1) ∧ X.cell? ⟨w.heap.size + 1, 2, none⟩ = some (.slice (some ⟨bb2, o2, none⟩) l2.length c2) ∧ X.cell? ⟨w.heap.size + 2, 2, none⟩ = some (.slice (some ⟨bb3, o3, none⟩) l3.length c3) ∧ X.cell? ⟨w.heap.size + 3, 2, none⟩ = some (.slice (some ⟨bb4, o4, none⟩) l4.length c4) ∧ X.cell? ⟨bb1, o1 + k, none⟩ = some (.int .i64 y1) ∧ X.cell? ⟨bb2, o2 + k, none⟩ = some (.int .i64 y2) ∧ X.cell? ⟨bb3, o3 + k, none⟩ = some (.int .i64 y3) ∧ X.cell? ⟨bb4, o4 + k, none⟩ = some (.int .i64 y4) ∧ X.cell? ⟨w9.heap.size, 0, none⟩ = some (.bool nr) ∧ X.cell? ⟨w9.heap.size, 1, none⟩ = some (.slice A5 lr.length c5) ∧ X.cell? ⟨w9.heap.size, 2, none⟩ = some (.bool ns) ∧ X.cell? ⟨w9.heap.size, 3, none⟩ = some (.slice A6 ls.length c6) ∧ X.cell? ⟨w10.heap.size, 0, none⟩ = some (.bool np) ∧ X.cell? ⟨w10.heap.size, 1, none⟩ = some (.slice A7 lp.length c7) ∧ X.cell? ⟨w10.heap.size, 2, none⟩ = some (.bool nq) ∧ X.cell? ⟨w10.heap.size, 3, none⟩ = some (.slice A8 lq.length c8)) := fun X h => ⟨(K0.out.below h.hb K0.out.lt).at_ 2 rfl, (K1.out.below h.hb K1.out.lt).at_ 2 rfl, (K2.out.below h.hb K2.out.lt).at_ 2 rfl, (K3.out.below h.hb K3.out.lt).at_ 2 rfl, (h.hb.cell (p := ⟨bb1, o1 + k, none⟩) (lt_of_cell x1)).trans x1, (h.hb.cell (p := ⟨bb2, o2 + k, none⟩) (lt_of_cell x2)).trans x2, (h.hb.cell (p := ⟨bb3, o3 + k, none⟩) (lt_of_cell x3)).trans x3, (h.hb.cell (p := ⟨bb4, o4 + k, none⟩) (lt_of_cell x4)).trans x4, (KM.out.below h.hb KM.out.lt).at_ 0 rfl, (KM.out.below h.hb KM.out.lt).at_ 1 rfl, (KM.out.below h.hb KM.out.lt).at_ 2 rfl, (KM.out.below h.hb KM.out.lt).at_ 3 rfl, (KP.out.below h.hb KP.out.lt).at_ 0 rfl, (KP.out.below h.hb KP.out.lt).at_ 1 rfl, (KP.out.below h.hb KP.out.lt).at_ 2 rfl, (KP.out.below h.hb KP.out.lt).at_ 3 rfl⟩
          have HI2 : Hid (RI wy v1.drew W H v (.slice A9 (k + 1) c9) (pxL E D l1 l2 l3 l4 k) (bdL l4 k ++ [false])) := RI.call HI1.out (Below.refl _ _).drew
          have J0 := Lib.hid (JS.out _ HI2.out)
          clear P0 P1 P2 P3 Y1c Y2c Y3c Y4c m0 m1 m2 m3 n0 n1 n2 n3
          have N1d := Lib.hid (N1.out.below HI2.out.hb)
          have N2d := Lib.hid (N2.out.below HI2.out.hb)
          have M1d := Lib.hid (M1.out.below HI2.out.hb)
          have M2d := Lib.hid (M2.out.below HI2.out.hb)
          go_region_held3 (fun w' => w'.cell? ⟨w.heap.size, 2, none⟩ = some (.slice (some ⟨bb1, o1, none⟩) l1.length c1) ∧ w'.cell? ⟨w.heap.size + 1, 2, none⟩ = some (.slice (some ⟨bb2, o2, none⟩) l2.length c2) ∧ w'.cell? ⟨w.heap.size + 2, 2, none⟩ = some (.slice (some ⟨bb3, o3, none⟩) l3.length c3) ∧ w'.cell? ⟨w.heap.size + 3, 2, none⟩ = some (.slice (some ⟨bb4, o4, none⟩) l4.length c4) ∧ w'.cell? ⟨bb1, o1 + k, none⟩ = some (.int .i64 y1) ∧ w'.cell? ⟨bb2, o2 + k, none⟩ = some (.int .i64 y2) ∧ w'.cell? ⟨bb3, o3 + k, none⟩ = some (.int .i64 y3) ∧ w'.cell? ⟨bb4, o4 + k, none⟩ = some (.int .i64 y4) ∧ w'.cell? ⟨w9.heap.size, 0, none⟩ = some (.bool nr) ∧ w'.cell? ⟨w9.heap.size, 1, none⟩ = some (.slice A5 lr.length c5) ∧ w'.cell? ⟨w9.heap.size, 2, none⟩ = some (.bool ns) ∧ w'.cell? ⟨w9.heap.size, 3, none⟩ = some (.slice A6 ls.length c6) ∧ w'.cell? ⟨w10.heap.size, 0, none⟩ = some (.bool np) ∧ w'.cell? ⟨w10.heap.size, 1, none⟩ = some (.slice A7 lp.length c7) ∧ w'.cell? ⟨w10.heap.size, 2, none⟩ = some (.bool nq) ∧ w'.cell? ⟨w10.heap.size, 3, none⟩ = some (.slice A8 lq.length c8)) (first | with_reducible exact J2.out | with_reducible exact J1.out | with_reducible exact J0.out)
            (first | (go_at_call 57; (with_reducible refine (hCB.out v1.drew A7 A8 A5 A6 c7 c8 c5 c6 N1d.out N2d.out M1d.out M2d.out).mono ?_); rintro e v3 ⟨A11, c11, A12, c12, rfl, hs11, hs12, hb⟩; (try dsimp only at hs11); (try dsimp only at hs12); (try dsimp only); have HI4 := Lib.hid (RI.call HI2.out hb); have J1 := Lib.hid (JS.out _ HI4.out); replace hs11 := Lib.hid hs11; replace hs12 := Lib.hid hs12; clear hb) | (go_at_call 56; (with_reducible refine (hPX.out v3 A11 A12 c11 c12 hs11.out hs12.out).mono ?_); rintro e v4 ⟨rfl, hb⟩; have HI5 := Lib.hid (RI.call HI4.out hb); have J2 := Lib.hid (JS.out _ HI5.out); clear hb hs11 hs12))
          clear J0 J1 J2 JS
          have qo0 : v4.cell? ⟨w.heap.size + 4, 0, none⟩ = some (.int .i64 0) := (K4.out.below HI5.out.hb K4.out.lt).at_ 0 rfl
          have qo1 : v4.cell? ⟨w.heap.size + 4, 1, none⟩ = some (.int .i64 0) := (K4.out.below HI5.out.hb K4.out.lt).at_ 1 rfl
          have qo2 : v4.cell? ⟨w.heap.size + 4, 2, none⟩ = some (.slice none 0 0) := (K4.out.below HI5.out.hb K4.out.lt).at_ 2 rfl
          have f0 : v4.frozen? ⟨w.heap.size + 4, 0, none⟩ = false := (K4.out.below HI5.out.hb K4.out.lt).frozen 0
          have f1 : v4.frozen? ⟨w.heap.size + 4, 1, none⟩ = false := (K4.out.below HI5.out.hb K4.out.lt).frozen 1
          have f2 : v4.frozen? ⟨w.heap.size + 4, 2, none⟩ = false := (K4.out.below HI5.out.hb K4.out.lt).frozen 2
          have hbw := Lib.hid (Below.trans' HB.out HI5.out.hb)
          go_wp2
          exact bodyPost_ret (v := .tuple #[.agg #[.int .i64 0, .int .i64 0, .slice none 0 0], .slice none 0 0, .int .i64 16]) (by simp [results, Tryz.results13, go_sem, qo0, qo1, qo2]) rfl (by rw [HR.out]; exact apR_err rfl (Below.setCell (Below.setCell (Below.setCell hbw.out (p := ⟨w.heap.size + 4, 0, none⟩) (by simp <;> omega) _) (p := ⟨w.heap.size + 4, 1, none⟩) (by simp <;> omega) _) (p := ⟨w.heap.size + 4, 2, none⟩) (by simp <;> omega) _))
      · have EB : Hid (bdAt l4 k = true) := decide_eq_true (by omega)
        have EP : Hid (pxAt E D l1 l2 l3 l4 k = 0) := if_pos (by omega)
        have EE : Hid (erAt E D l1 l2 l3 l4 k = 0) := if_pos (by omega)
        have t5 : decide (l4.getD k 0 ≤ 0) = true := decide_eq_true (by omega)
        clear hX hx
        generalize l1.getD k 0 = y1 at *
        generalize l2.getD k 0 = y2 at *
        generalize l3.getD k 0 = y3 at *
        generalize l4.getD k 0 = y4 at *
        have p0 : wr.cell? ⟨w.heap.size, 2, none⟩ = some (.slice (some ⟨bb1, o1, none⟩) l1.length c1) := (K0.out.below HI.out.hb K0.out.lt).at_ 2 rfl
        have p3 : wr.cell? ⟨w.heap.size + 3, 2, none⟩ = some (.slice (some ⟨bb4, o4, none⟩) l4.length c4) := (K3.out.below HI.out.hb K3.out.lt).at_ 2 rfl
        have y4c : wr.cell? ⟨bb4, o4 + k, none⟩ = some (.int .i64 y4) := (HI.out.hb.cell (p := ⟨bb4, o4 + k, none⟩) (lt_of_cell x4)).trans x4
        go_wp2_with (first | (at_builtin; refine wpList_appV rfl _ _ 27 rfl (wy.heap.size + 1) 4 ib (.bool false) 1 Tryz.underlying27 hib hib0 rfl hib1 hib2 _ (cB (bdL l4 k)) rfl HI.out.ob (.bool true) rfl 4 rfl (by rw [Hlb.out]; omega) (by rw [Hlb.out]; omega) HI.out.lt ?_; intro A9 c9 v1 hown hgrow _; rw [Hlb1.out] at hown ⊢; have HI1 := Lib.hid (RI.appB HI.out true hgrow hown); clear hown hgrow p0 p3 y4c; have P3 : v1.cell? ⟨w.heap.size + 3, 2, none⟩ = some (.slice (some ⟨bb4, o4, none⟩) l4.length c4) := (K3.out.below HI1.out.hb K3.out.lt).at_ 2 rfl; have Y4c : v1.cell? ⟨bb4, o4 + k, none⟩ = some (.int .i64 y4) := (HI1.out.hb.cell (p := ⟨bb4, o4 + k, none⟩) (lt_of_cell x4)).trans x4; have qx2 : v1.cell? ⟨w10.heap.size + 1, 2, none⟩ = some v := hsy.out ▸ HI1.out.kx.at_ 2 rfl) | (at_builtin; refine wpList_appV rfl _ _ 22 rfl (wy.heap.size + 1) 2 ii (.int .i64 0) 8 Tryz.underlying22 hii hii0 rfl hii1 hii2 v (cI (pxL E D l1 l2 l3 l4 k)) rfl HI1.out.ow (.int .i64 0) rfl 2 rfl (by rw [Hlp.out]; omega) (by rw [Hlp.out]; omega) HI1.out.lt ?_; intro A10 c10 v2 hown hgrow _; rw [Hlp1.out] at hown ⊢; have HX2 := Lib.hid (RI.boxI HI1.out hgrow); have HIE := Lib.hid (RI.appI HI1.out 0 hgrow hown); clear hown hgrow P3 Y4c qx2; have qx3 : v2.cell? ⟨w10.heap.size + 1, 2, none⟩ = some v := hsy.out ▸ HX2.out.at_ 2 rfl; have fx3 : v2.frozen? ⟨w10.heap.size + 1, 2, none⟩ = false := hsy.out ▸ HX2.out.frozen 2))
        go_roundw
        case rel => exact ⟨k + 1, _, by omega, by go_num, by rw [pxL_succ, bdL_succ, EP.out, EB.out, ← hsy.out]; exact HIE.out, fun i hi => by rcases Nat.lt_or_ge i k with h1 | h1 <;> first | exact HE.out i h1 | (rw [show i = k by omega]; exact EE.out)⟩
        case measure => simp [intOf]; omega
    · obtain rfl : k = l1.length := by omega
      have HR : Hid (res = ⟨W, H, pxL E D l1 l2 l3 l4 l1.length, bdL l4 l1.length, 0⟩) := by have q := hres.out; rw [erL_none HE.out, if_neg (by simp)] at q; exact q.symm
      obtain ⟨A9, c9, hv, hl9⟩ := HI.out.ow.form
      rw [Hlp.out] at hv hl9
      subst hv
      obtain ⟨A10, c10, hv, hl10⟩ := HI.out.ob.form
      rw [Hlb.out] at hv hl10
      subst hv
      have p0 : wr.cell? ⟨w.heap.size, 2, none⟩ = some (.slice A1 l1.length c1) := (K0.out.below HI.out.hb K0.out.lt).at_ 2 rfl
      have qo0 : wr.cell? ⟨w.heap.size + 4, 0, none⟩ = some (.int .i64 0) := (K4.out.below HI.out.hb K4.out.lt).at_ 0 rfl
      have qo1 : wr.cell? ⟨w.heap.size + 4, 1, none⟩ = some (.int .i64 0) := (K4.out.below HI.out.hb K4.out.lt).at_ 1 rfl
      have qo2 : wr.cell? ⟨w.heap.size + 4, 2, none⟩ = some (.slice none 0 0) := (K4.out.below HI.out.hb K4.out.lt).at_ 2 rfl
      have f0 : wr.frozen? ⟨w.heap.size + 4, 0, none⟩ = false := (K4.out.below HI.out.hb K4.out.lt).frozen 0
      have f1 : wr.frozen? ⟨w.heap.size + 4, 1, none⟩ = false := (K4.out.below HI.out.hb K4.out.lt).frozen 1
      have f2 : wr.frozen? ⟨w.heap.size + 4, 2, none⟩ = false := (K4.out.below HI.out.hb K4.out.lt).frozen 2
      have hbw := Lib.hid (Below.trans' HB.out HI.out.hb)
      have qx0 : wr.cell? ⟨w10.heap.size + 1, 0, none⟩ = some (.int .i64 W) := hsy.out ▸ HI.out.kx.at_ 0 rfl
      have qx1 : wr.cell? ⟨w10.heap.size + 1, 1, none⟩ = some (.int .i64 H) := hsy.out ▸ HI.out.kx.at_ 1 rfl
      have qx2 : wr.cell? ⟨w10.heap.size + 1, 2, none⟩ = some (.slice A9 l1.length c9) := hsy.out ▸ HI.out.kx.at_ 2 rfl
      go_wp2
      exact bodyPost_ret (v := .tuple #[.agg #[.int .i64 W, .int .i64 H, .slice A9 l1.length c9], .slice A10 l1.length c10, .int .i64 0]) (by simp [results, Tryz.results13, go_sem, qo0, qo1, qo2]) rfl (by rw [HR.out]; exact ri_end HI.out (pxL_len _ _ _ _ _ _ _) (bdL_len _ _) (pxL_in64 _ _ _ _ _ _ _) hl1.out hl9 hl10 K4.out.lt (by omega) HB.out _ _ _)

end Go.Proofs.YtlekjkljajeodaaGreat

import Derived.Test.YtghallnooijfhaaMg1
import Derived.Test.YtghallnooijfhaaMg7
import Derived.Test.YtghallnooijfhaaMg5
import Derived.Test.YtghallnooijfhaaMg9
import Derived.Deep.CutRange
import Derived.Deep.RegionHeld3
import Derived.IntWalk
import Derived.Test.YtghallnooijfhaaMg4
import Derived.Test.YtghallnooijfhaaW19
import Derived.Test.YtghallnooijfhaaW8
namespace Go.Proofs.Ytghallnooijfhaa
open Go.RowKit
attribute [local go_sem ↓] Go.wp_at_zero Go.wp_at_succ
set_option maxRecDepth 100000 in
set_option maxHeartbeats 2000000 in
theorem emul_w (n1 n2 n3 n4 : Bool) (A1 A2 A3 A4 : Option Addr) (l1 l2 l3 l4 : List Nat) (c1 c2 c3 c4 : Nat) (R : (Bool × List Nat) × (Bool × List Nat)) (hR : bothF n1 l1 n2 l2 n3 l3 n4 l4 mulV = (R, 0)) (w : World) (hs1 : Sl w A1 l1 c1) (hs2 : Sl w A2 l2 c2) (hs3 : Sl w A3 l3 c3) (hs4 : Sl w A4 l4 c4) :
    Calls Try.prog 21 #[.agg #[.bool n1, .slice A1 l1.length c1, .bool n2, .slice A2 l2.length c2], .agg #[.bool n3, .slice A3 l3.length c3, .bool n4, .slice A4 l4.length c4]] w (FRes1 R w) := by
  have S1 := Lib.hid hs1
  have S2 := Lib.hid hs2
  have S3 := Lib.hid hs3
  have S4 := Lib.hid hs4
  have B : Hid (Below w.heap.size w w) := Below.refl _ _
  clear hs1 hs2 hs3 hs4
  have HR := Lib.hid hR
  clear hR
  obtain ⟨⟨nx, lx⟩, ⟨ny, ly⟩⟩ := R
  go_enter Try.func21, Try.ntmps21
  go_wp2_with fail
  refine (fmul_good n1 n2 n3 n4 _ _ _ _ l1 l2 l3 l4 _ _ _ _ (congrArg Prod.snd HR.out) _ (((S1.out.alloc _).alloc _).alloc _) (((S2.out.alloc _).alloc _).alloc _) (((S3.out.alloc _).alloc _).alloc _) (((S4.out.alloc _).alloc _).alloc _)).mono ?_
  rw [HR.out]
  rintro e w5 ⟨A5, c5, B5, d5, rfl, hs5, ht5, hb⟩
  replace S1 : Hid (Sl w5 A1 l1 c1) := Sl.below (((S1.out.alloc _).alloc _).alloc _) hb
  replace S2 : Hid (Sl w5 A2 l2 c2) := Sl.below (((S2.out.alloc _).alloc _).alloc _) hb
  replace S3 : Hid (Sl w5 A3 l3 c3) := Sl.below (((S3.out.alloc _).alloc _).alloc _) hb
  replace S4 : Hid (Sl w5 A4 l4 c4) := Sl.below (((S4.out.alloc _).alloc _).alloc _) hb
  have Fo : Hid (Ff w5 (w.heap.size + 1 + 1)) := Ff.keep (Ff.fresh (by simp) _ _) (Cf.fresh (by simp) _ _ _ _ _ _ _ _ _) hb
  have Ka : Hid (Cf w5 w.heap.size n1 A1 l1.length c1 n2 A2 l2.length c2) := Cf.keep (Cf.keep (Cf.keep (Cf.fresh (by simp) _ _ _ _ _ _ _ _ _) (blw1 _ _)) (blw1 _ _)) hb
  have Kb : Hid (Cf w5 (w.heap.size + 1) n3 A3 l3.length c3 n4 A4 l4.length c4) := Cf.keep (Cf.keep (Cf.fresh (by simp) _ _ _ _ _ _ _ _ _) (blw1 _ _)) hb
  have Ko : Hid (Cf w5 (w.heap.size + 1 + 1) false none 0 0 false none 0 0) := Cf.keep (Cf.fresh (by simp) _ _ _ _ _ _ _ _ _) hb
  replace B : Hid (Below w.heap.size w w5) := below_mono (below_mono (below_mono (below_mono B.out (blw1 _ _)) (blw1 _ _)) (blw1 _ _)) hb
  clear hb
  (try dsimp only at hs5 ht5)
  (try dsimp only)
  have Sx : Hid (Sl w5 A5 lx c5) := hs5
  clear hs5
  have Sy : Hid (Sl w5 B5 ly d5) := ht5
  clear ht5
  have hza : w.heap.size < w5.heap.size := lt_of_cell (a := ⟨w.heap.size, 0, none⟩) Ka.out.1
  have hzb : w.heap.size + 1 < w5.heap.size := lt_of_cell (a := ⟨w.heap.size + 1, 0, none⟩) Kb.out.1
  have hzo : w.heap.size + 1 + 1 < w5.heap.size := lt_of_cell (a := ⟨w.heap.size + 1 + 1, 0, none⟩) Ko.out.1
  clear S1
  clear S2
  clear S3
  clear S4
  clear Ka
  clear Kb
  have hkof := hzo
  obtain ⟨qo0, qo1, qo2, qo3⟩ := Ko.out
  obtain ⟨fo0, fo1, fo2, fo3⟩ := Fo.out
  go_wp2
  exact bodyPost_ret (v := .agg #[.bool nx, .slice A5 lx.length c5, .bool ny, .slice B5 ly.length d5]) (by simp [results, Try.results21, go_sem, qo0, qo1, qo2, qo3, hzo]) rfl (part_end (r := ((nx, lx), (ny, ly))) Sx.out Sy.out Ko.out B.out (by omega) _ _ _ _ _)

set_option maxRecDepth 100000 in
set_option maxHeartbeats 2000000 in
theorem eadd_w (n1 n2 n3 n4 : Bool) (A1 A2 A3 A4 : Option Addr) (l1 l2 l3 l4 : List Nat) (c1 c2 c3 c4 : Nat) (R : (Bool × List Nat) × (Bool × List Nat)) (hR : bothF n1 l1 n2 l2 n3 l3 n4 l4 addV = (R, 0)) (w : World) (hs1 : Sl w A1 l1 c1) (hs2 : Sl w A2 l2 c2) (hs3 : Sl w A3 l3 c3) (hs4 : Sl w A4 l4 c4) :
    Calls Try.prog 38 #[.agg #[.bool n1, .slice A1 l1.length c1, .bool n2, .slice A2 l2.length c2], .agg #[.bool n3, .slice A3 l3.length c3, .bool n4, .slice A4 l4.length c4]] w (FRes1 R w) := by
  have S1 := Lib.hid hs1
  have S2 := Lib.hid hs2
  have S3 := Lib.hid hs3
  have S4 := Lib.hid hs4
  have B : Hid (Below w.heap.size w w) := Below.refl _ _
  clear hs1 hs2 hs3 hs4
  have HR := Lib.hid hR
  clear hR
  obtain ⟨⟨nx, lx⟩, ⟨ny, ly⟩⟩ := R
  go_enter Try.func38, Try.ntmps38
  go_wp2_with fail
  refine (fadd_good n1 n2 n3 n4 _ _ _ _ l1 l2 l3 l4 _ _ _ _ (congrArg Prod.snd HR.out) _ (((S1.out.alloc _).alloc _).alloc _) (((S2.out.alloc _).alloc _).alloc _) (((S3.out.alloc _).alloc _).alloc _) (((S4.out.alloc _).alloc _).alloc _)).mono ?_
  rw [HR.out]
  rintro e w5 ⟨A5, c5, B5, d5, rfl, hs5, ht5, hb⟩
  replace S1 : Hid (Sl w5 A1 l1 c1) := Sl.below (((S1.out.alloc _).alloc _).alloc _) hb
  replace S2 : Hid (Sl w5 A2 l2 c2) := Sl.below (((S2.out.alloc _).alloc _).alloc _) hb
  replace S3 : Hid (Sl w5 A3 l3 c3) := Sl.below (((S3.out.alloc _).alloc _).alloc _) hb
  replace S4 : Hid (Sl w5 A4 l4 c4) := Sl.below (((S4.out.alloc _).alloc _).alloc _) hb
  have Fo : Hid (Ff w5 (w.heap.size + 1 + 1)) := Ff.keep (Ff.fresh (by simp) _ _) (Cf.fresh (by simp) _ _ _ _ _ _ _ _ _) hb
  have Ka : Hid (Cf w5 w.heap.size n1 A1 l1.length c1 n2 A2 l2.length c2) := Cf.keep (Cf.keep (Cf.keep (Cf.fresh (by simp) _ _ _ _ _ _ _ _ _) (blw1 _ _)) (blw1 _ _)) hb
  have Kb : Hid (Cf w5 (w.heap.size + 1) n3 A3 l3.length c3 n4 A4 l4.length c4) := Cf.keep (Cf.keep (Cf.fresh (by simp) _ _ _ _ _ _ _ _ _) (blw1 _ _)) hb
  have Ko : Hid (Cf w5 (w.heap.size + 1 + 1) false none 0 0 false none 0 0) := Cf.keep (Cf.fresh (by simp) _ _ _ _ _ _ _ _ _) hb
  replace B : Hid (Below w.heap.size w w5) := below_mono (below_mono (below_mono (below_mono B.out (blw1 _ _)) (blw1 _ _)) (blw1 _ _)) hb
  clear hb
  (try dsimp only at hs5 ht5)
  (try dsimp only)
  have Sx : Hid (Sl w5 A5 lx c5) := hs5
  clear hs5
  have Sy : Hid (Sl w5 B5 ly d5) := ht5
  clear ht5
  have hza : w.heap.size < w5.heap.size := lt_of_cell (a := ⟨w.heap.size, 0, none⟩) Ka.out.1
  have hzb : w.heap.size + 1 < w5.heap.size := lt_of_cell (a := ⟨w.heap.size + 1, 0, none⟩) Kb.out.1
  have hzo : w.heap.size + 1 + 1 < w5.heap.size := lt_of_cell (a := ⟨w.heap.size + 1 + 1, 0, none⟩) Ko.out.1
  clear S1
  clear S2
  clear S3
  clear S4
  clear Ka
  clear Kb
  have hkof := hzo
  obtain ⟨qo0, qo1, qo2, qo3⟩ := Ko.out
  obtain ⟨fo0, fo1, fo2, fo3⟩ := Fo.out
  go_wp2
  exact bodyPost_ret (v := .agg #[.bool nx, .slice A5 lx.length c5, .bool ny, .slice B5 ly.length d5]) (by simp [results, Try.results38, go_sem, qo0, qo1, qo2, qo3, hzo]) rfl (part_end (r := ((nx, lx), (ny, ly))) Sx.out Sy.out Ko.out B.out (by omega) _ _ _ _ _)

set_option maxRecDepth 100000 in
set_option maxHeartbeats 2000000 in
theorem esub_w (n1 n2 n3 n4 : Bool) (A1 A2 A3 A4 : Option Addr) (l1 l2 l3 l4 : List Nat) (c1 c2 c3 c4 : Nat) (R : (Bool × List Nat) × (Bool × List Nat)) (hR : bothF n1 l1 n2 l2 n3 l3 n4 l4 subV = (R, 0)) (w : World) (hs1 : Sl w A1 l1 c1) (hs2 : Sl w A2 l2 c2) (hs3 : Sl w A3 l3 c3) (hs4 : Sl w A4 l4 c4) :
    Calls Try.prog 39 #[.agg #[.bool n1, .slice A1 l1.length c1, .bool n2, .slice A2 l2.length c2], .agg #[.bool n3, .slice A3 l3.length c3, .bool n4, .slice A4 l4.length c4]] w (FRes1 R w) := by
  have S1 := Lib.hid hs1
  have S2 := Lib.hid hs2
  have S3 := Lib.hid hs3
  have S4 := Lib.hid hs4
  have B : Hid (Below w.heap.size w w) := Below.refl _ _
  clear hs1 hs2 hs3 hs4
  have HR := Lib.hid hR
  clear hR
  obtain ⟨⟨nx, lx⟩, ⟨ny, ly⟩⟩ := R
  go_enter Try.func39, Try.ntmps39
  go_wp2_with fail
  refine (fsub_good n1 n2 n3 n4 _ _ _ _ l1 l2 l3 l4 _ _ _ _ (congrArg Prod.snd HR.out) _ (((S1.out.alloc _).alloc _).alloc _) (((S2.out.alloc _).alloc _).alloc _) (((S3.out.alloc _).alloc _).alloc _) (((S4.out.alloc _).alloc _).alloc _)).mono ?_
  rw [HR.out]
  rintro e w5 ⟨A5, c5, B5, d5, rfl, hs5, ht5, hb⟩
  replace S1 : Hid (Sl w5 A1 l1 c1) := Sl.below (((S1.out.alloc _).alloc _).alloc _) hb
  replace S2 : Hid (Sl w5 A2 l2 c2) := Sl.below (((S2.out.alloc _).alloc _).alloc _) hb
  replace S3 : Hid (Sl w5 A3 l3 c3) := Sl.below (((S3.out.alloc _).alloc _).alloc _) hb
  replace S4 : Hid (Sl w5 A4 l4 c4) := Sl.below (((S4.out.alloc _).alloc _).alloc _) hb
  have Fo : Hid (Ff w5 (w.heap.size + 1 + 1)) := Ff.keep (Ff.fresh (by simp) _ _) (Cf.fresh (by simp) _ _ _ _ _ _ _ _ _) hb
  have Ka : Hid (Cf w5 w.heap.size n1 A1 l1.length c1 n2 A2 l2.length c2) := Cf.keep (Cf.keep (Cf.keep (Cf.fresh (by simp) _ _ _ _ _ _ _ _ _) (blw1 _ _)) (blw1 _ _)) hb
  have Kb : Hid (Cf w5 (w.heap.size + 1) n3 A3 l3.length c3 n4 A4 l4.length c4) := Cf.keep (Cf.keep (Cf.fresh (by simp) _ _ _ _ _ _ _ _ _) (blw1 _ _)) hb
  have Ko : Hid (Cf w5 (w.heap.size + 1 + 1) false none 0 0 false none 0 0) := Cf.keep (Cf.fresh (by simp) _ _ _ _ _ _ _ _ _) hb
  replace B : Hid (Below w.heap.size w w5) := below_mono (below_mono (below_mono (below_mono B.out (blw1 _ _)) (blw1 _ _)) (blw1 _ _)) hb
  clear hb
  (try dsimp only at hs5 ht5)
  (try dsimp only)
  have Sx : Hid (Sl w5 A5 lx c5) := hs5
  clear hs5
  have Sy : Hid (Sl w5 B5 ly d5) := ht5
  clear ht5
  have hza : w.heap.size < w5.heap.size := lt_of_cell (a := ⟨w.heap.size, 0, none⟩) Ka.out.1
  have hzb : w.heap.size + 1 < w5.heap.size := lt_of_cell (a := ⟨w.heap.size + 1, 0, none⟩) Kb.out.1
  have hzo : w.heap.size + 1 + 1 < w5.heap.size := lt_of_cell (a := ⟨w.heap.size + 1 + 1, 0, none⟩) Ko.out.1
  clear S1
  clear S2
  clear S3
  clear S4
  clear Ka
  clear Kb
  have hkof := hzo
  obtain ⟨qo0, qo1, qo2, qo3⟩ := Ko.out
  obtain ⟨fo0, fo1, fo2, fo3⟩ := Fo.out
  go_wp2
  exact bodyPost_ret (v := .agg #[.bool nx, .slice A5 lx.length c5, .bool ny, .slice B5 ly.length d5]) (by simp [results, Try.results39, go_sem, qo0, qo1, qo2, qo3, hzo]) rfl (part_end (r := ((nx, lx), (ny, ly))) Sx.out Sy.out Ko.out B.out (by omega) _ _ _ _ _)

set_option maxRecDepth 100000 in
set_option maxHeartbeats 2000000 in
theorem ewhole_w (n : Int) (h1 : -9223372036854775808 ≤ n) (h2 : n ≤ 9223372036854775807) (w : World) :
    Calls Try.prog 35 #[.int .i64 n] w (FRes1 (redZ n 1) w) := by
  obtain ⟨R, hR⟩ : ∃ R, redZ n 1 = R := ⟨_, rfl⟩
  have HA : Hid (∀ V, Calls Try.prog 19 #[.int .i64 n, .int .i64 1] V (FRes (R, 0) V)) := fun V => by have h := of_any n 1 h1 h2 (by omega) (by omega) V; unfold ofS at h; rwa [if_neg (by omega), hR] at h
  rw [hR]
  clear hR
  have B : Hid (Below w.heap.size w w) := Below.refl _ _
  obtain ⟨⟨nx, lx⟩, ⟨ny, ly⟩⟩ := R
  go_enter Try.func35, Try.ntmps35
  go_wp2_with fail
  refine (HA.out _).mono ?_
  rintro e w5 ⟨A5, c5, B5, d5, rfl, hs5, ht5, hb⟩
  have Fo : Hid (Ff w5 w.heap.size) := Ff.keep (Ff.fresh (by simp) _ _) (Cf.fresh (by simp) _ _ _ _ _ _ _ _ _) hb
  have Ko : Hid (Cf w5 w.heap.size false none 0 0 false none 0 0) := Cf.keep (Cf.fresh (by simp) _ _ _ _ _ _ _ _ _) hb
  replace B : Hid (Below w.heap.size w w5) := below_mono (below_mono B.out (blw1 _ _)) hb
  clear hb
  (try dsimp only at hs5 ht5)
  (try dsimp only)
  have Sx : Hid (Sl w5 A5 lx c5) := hs5
  clear hs5
  have Sy : Hid (Sl w5 B5 ly d5) := ht5
  clear ht5
  have hzo : w.heap.size < w5.heap.size := lt_of_cell (a := ⟨w.heap.size, 0, none⟩) Ko.out.1
  have hkof := hzo
  obtain ⟨qo0, qo1, qo2, qo3⟩ := Ko.out
  obtain ⟨fo0, fo1, fo2, fo3⟩ := Fo.out
  go_wp2
  exact bodyPost_ret (v := .agg #[.bool nx, .slice A5 lx.length c5, .bool ny, .slice B5 ly.length d5]) (by simp [results, Try.results35, go_sem, qo0, qo1, qo2, qo3, hzo]) rfl (part_end (r := ((nx, lx), (ny, ly))) Sx.out Sy.out Ko.out B.out (by omega) _ _ _ _ _)

theorem emul_q {k j : Nat} {p q : Rat} (hp : Few k p) (hq : Few j q) (hk : k + j ≤ 4096) (w : World) (A1 A2 A3 A4 : Option Addr) (cA1 cA2 cA3 cA4 : Nat) (hs1 : Sl w A1 (frQ p).1.2 cA1) (hs2 : Sl w A2 (frQ p).2.2 cA2) (hs3 : Sl w A3 (frQ q).1.2 cA3) (hs4 : Sl w A4 (frQ q).2.2 cA4) :
    Calls Try.prog 21 #[.agg #[.bool (frQ p).1.1, .slice A1 (frQ p).1.2.length cA1, .bool (frQ p).2.1, .slice A2 (frQ p).2.2.length cA2], .agg #[.bool (frQ q).1.1, .slice A3 (frQ q).1.2.length cA3, .bool (frQ q).2.1, .slice A4 (frQ q).2.2.length cA4]] w (FRes1 (frQ (p * q)) w) :=
  emul_w _ _ _ _ A1 A2 A3 A4 _ _ _ _ cA1 cA2 cA3 cA4 _ (q_mul hp hq hk).1 w hs1 hs2 hs3 hs4

theorem eadd_q {k j : Nat} {p q : Rat} (hp : Few k p) (hq : Few j q) (hk : k + j + 1 ≤ 4096) (w : World) (A1 A2 A3 A4 : Option Addr) (cA1 cA2 cA3 cA4 : Nat) (hs1 : Sl w A1 (frQ p).1.2 cA1) (hs2 : Sl w A2 (frQ p).2.2 cA2) (hs3 : Sl w A3 (frQ q).1.2 cA3) (hs4 : Sl w A4 (frQ q).2.2 cA4) :
    Calls Try.prog 38 #[.agg #[.bool (frQ p).1.1, .slice A1 (frQ p).1.2.length cA1, .bool (frQ p).2.1, .slice A2 (frQ p).2.2.length cA2], .agg #[.bool (frQ q).1.1, .slice A3 (frQ q).1.2.length cA3, .bool (frQ q).2.1, .slice A4 (frQ q).2.2.length cA4]] w (FRes1 (frQ (p + q)) w) :=
  eadd_w _ _ _ _ A1 A2 A3 A4 _ _ _ _ cA1 cA2 cA3 cA4 _ (q_add hp hq hk).1 w hs1 hs2 hs3 hs4

theorem esub_q {k j : Nat} {p q : Rat} (hp : Few k p) (hq : Few j q) (hk : k + j + 1 ≤ 4096) (w : World) (A1 A2 A3 A4 : Option Addr) (cA1 cA2 cA3 cA4 : Nat) (hs1 : Sl w A1 (frQ p).1.2 cA1) (hs2 : Sl w A2 (frQ p).2.2 cA2) (hs3 : Sl w A3 (frQ q).1.2 cA3) (hs4 : Sl w A4 (frQ q).2.2 cA4) :
    Calls Try.prog 39 #[.agg #[.bool (frQ p).1.1, .slice A1 (frQ p).1.2.length cA1, .bool (frQ p).2.1, .slice A2 (frQ p).2.2.length cA2], .agg #[.bool (frQ q).1.1, .slice A3 (frQ q).1.2.length cA3, .bool (frQ q).2.1, .slice A4 (frQ q).2.2.length cA4]] w (FRes1 (frQ (p - q)) w) :=
  esub_w _ _ _ _ A1 A2 A3 A4 _ _ _ _ cA1 cA2 cA3 cA4 _ (q_sub hp hq hk).1 w hs1 hs2 hs3 hs4

theorem ewhole_q (n : Int) (h1 : -9223372036854775808 ≤ n) (h2 : n ≤ 9223372036854775807) (w : World) :
    Calls Try.prog 35 #[.int .i64 n] w (FRes1 (frQ (n : Rat)) w) := by
  have h := ewhole_w n h1 h2 w
  rwa [red_q (by omega), show Rat.divInt n 1 = (n : Rat) by rw [Rat.divInt_eq_div]; grind] at h

/-- An interval, if it is within the limits. -/
def madeS (lo hi : Int) : Int × Int × Int := if lo < -2305843009213693952 ∨ 2305843009213693952 < hi then (0, 0, 16) else (lo, hi, 0)

set_option maxRecDepth 100000 in
set_option maxHeartbeats 8000000 in
theorem ivmade_any (lo hi : Int) (w : World) : Calls Try.prog 58 #[.int .i64 lo, .int .i64 hi] w (IvRes (madeS lo hi) w) := by
  by_cases h1 : lo < -2305843009213693952
  · have t1 : decide (lo < -2305843009213693952) = true := decide_eq_true h1
    have E : Hid (madeS lo hi = (0, 0, 16)) := if_pos (.inl h1)
    clear h1
    go_enter Try.func58, Try.ntmps58
    go_wp2
    exact bodyPost_ret (v := .tuple #[.agg #[.int .i64 0, .int .i64 0], .int .i64 16]) (by simp [results, Try.results58, go_sem]) rfl (by rw [E.out]; exact ⟨rfl, blw1 _ _⟩)
  · have t1 : decide (lo < -2305843009213693952) = false := decide_eq_false h1
    by_cases h2 : 2305843009213693952 < hi
    · have t2 : decide (2305843009213693952 < hi) = true := decide_eq_true h2
      have E : Hid (madeS lo hi = (0, 0, 16)) := if_pos (.inr h2)
      clear h1 h2
      go_enter Try.func58, Try.ntmps58
      go_wp2
      exact bodyPost_ret (v := .tuple #[.agg #[.int .i64 0, .int .i64 0], .int .i64 16]) (by simp [results, Try.results58, go_sem]) rfl (by rw [E.out]; exact ⟨rfl, blw1 _ _⟩)
    · have t2 : decide (2305843009213693952 < hi) = false := decide_eq_false h2
      have E : Hid (madeS lo hi = (lo, hi, 0)) := if_neg (by omega)
      clear h1 h2
      go_enter Try.func58, Try.ntmps58
      go_wp2
      exact bodyPost_ret (v := .tuple #[.agg #[.int .i64 lo, .int .i64 hi], .int .i64 0]) (by simp [results, Try.results58, go_sem]) rfl (by rw [E.out]; exact ⟨rfl, blw1 _ _⟩)

set_option maxRecDepth 100000 in
set_option maxHeartbeats 8000000 in
theorem spanof_q (q : Rat) (k : Nat) (hq : Few k q) (hk : k ≤ 4000) (A B : Option Addr) (c d : Nat) (w : World) (hs : Sl w A (frQ q).1.2 c) (ht : Sl w B (frQ q).2.2 d) :
    Calls Try.prog 33 #[.agg #[.bool (frQ q).1.1, .slice A (frQ q).1.2.length c, .bool (frQ q).2.1, .slice B (frQ q).2.2.length d]] w (IvRes (ivS q) w) := by
  have v := (few_vf hq (by omega)).vf
  have hd := den_pos' q
  have hCk : Hid (∀ V, Sl V A (frQ q).1.2 c → Sl V B (frQ q).2.2 d → Calls Try.prog 54 #[.agg #[.bool (frQ q).1.1, .slice A (frQ q).1.2.length c, .bool (frQ q).2.1, .slice B (frQ q).2.2.length d]] V fun e V' => e = .returned (.int .i64 0) ∧ Below V.heap.size V V') := fun V s t => by have h := fcheck_any (frQ q).1.1 (frQ q).2.1 A B (frQ q).1.2 (frQ q).2.2 c d V s t; rwa [v.chk] at h
  have hDM : Hid (∀ V, Sl V A (frQ q).1.2 c → Sl V B (frQ q).2.2 d → Calls Try.prog 55 #[.agg #[.bool (frQ q).1.1, .slice A (frQ q).1.2.length c], .agg #[.bool (frQ q).2.1, .slice B (frQ q).2.2.length d]] V (DRes (wOf (q.num.fdiv q.den), wOf (ivR q 40), 0) V)) := fun V s t => by
    have h := wdivmod_any (frQ q).1.1 (frQ q).2.1 A B (frQ q).1.2 (frQ q).2.2 c d V s t
    rwa [dmS_z v.num v.den (by omega), ← (ivB_full q).2] at h
  have fd : fitZ (q.den : Int) := v.den.2
  have hfr : Hid (∀ z : Int, -(q.den : Int) ≤ z → z ≤ q.den → fitZ z) := fun z h1 h2 => fit_mono (by omega) fd
  have hfr2 : Hid (∀ z : Int, 0 ≤ z → z ≤ (q.den : Int) + q.den → fitZ z) := fun z h1 h2 => fit_of_lt (k := k + 1) (by have := add_few (a := q.den) (b := q.den) hq.2 hq.2; omega) (by omega)
  have fn : fitZ (q.num.fdiv q.den) := fit_fdiv v.num.2
  have S1 := Lib.hid hs
  have S2 := Lib.hid ht
  have HD := Lib.hid hd
  have hIn : Hid (∀ V A' c', Sl V A' (wOf (q.num.fdiv q.den)).2 c' → Calls Try.prog 45 #[.agg #[.bool (wOf (q.num.fdiv q.den)).1, .slice A' (wOf (q.num.fdiv q.den)).2.length c']] V fun e V' => e = .returned (.tuple #[.int .i64 (intS (wOf (q.num.fdiv q.den)).1 (wOf (q.num.fdiv q.den)).2).1, .int .i64 (intS (wOf (q.num.fdiv q.den)).1 (wOf (q.num.fdiv q.den)).2).2]) ∧ Below V.heap.size V V') := fun V A' c' s => int_any _ A' _ c' V s
  have hiv : intS (wOf (q.num.fdiv q.den)).1 (wOf (q.num.fdiv q.den)).2 = if -9223372036854775808 ≤ q.num.fdiv q.den ∧ q.num.fdiv q.den ≤ 9223372036854775807 then (q.num.fdiv q.den, 0) else (0, 16) := by
    unfold intS
    rw [(vz_wOf fn).good, (vz_wOf fn).zv_eq, if_neg (by simp)]
  have hout := iv_out (q := q)
  have hbd := fun e => ivB_bd (q := q) (e := e)
  have hfull := (ivB_full q).1
  have hnone := ivB_none q
  have hden : Hid ((frQ q).2 = wOf q.den) := rfl
  have hrb := ivR_bd q
  have HRB := Lib.hid hrb
  have HL := Lib.hid (fun e => iv_less (q := q) (e := e))
  have HM := Lib.hid (fun e => iv_more (q := q) (e := e))
  clear hs ht v hq hd fd fn hrb
  go_enter Try.func33, Try.ntmps33
  go_wp2_with (fail)
  generalize hwz : (w.alloc (.cells #[.bool (frQ q).1.1, .slice A (frQ q).1.2.length c, .bool (frQ q).2.1, .slice B (frQ q).2.2.length d] 59)).alloc (.cells #[.int .i64 0, .int .i64 0] 36) = wz at *
  have Kx : Hid (BxQ wz w.heap.size q A c B d) := by rw [← hwz]; exact (BxQ.fresh rfl S1.out S2.out).alloc _
  have Ko : Hid (BlkV wz (w.heap.size + 1) 36 #[.int .i64 0, .int .i64 0]) := by rw [← hwz]; exact BlkV.fresh (by simp) _ _
  have HB : Hid (Below w.heap.size w wz) := by rw [← hwz]; exact below_mono (blw1 _ _) (blw1 _ _)
  clear hwz S1 S2
  refine (hCk.out _ Kx.out.s Kx.out.t).mono ?_
  rintro e w1 ⟨rfl, hb⟩
  replace Kx := Lib.hid (Kx.out.keep hb)
  replace Ko := Lib.hid (Ko.out.keep hb)
  replace HB := Lib.hid (below_mono HB.out hb)
  clear hb
  obtain ⟨qx0, qx1, qx2, qx3⟩ := Kx.out.k
  have qo0 : w1.cell? ⟨w.heap.size + 1, 0, none⟩ = some (.int .i64 0) := Ko.out.at_ 0 rfl
  have qo1 : w1.cell? ⟨w.heap.size + 1, 1, none⟩ = some (.int .i64 0) := Ko.out.at_ 1 rfl
  have fo0 : w1.frozen? ⟨w.heap.size + 1, 0, none⟩ = false := Ko.out.frozen 0
  have fo1 : w1.frozen? ⟨w.heap.size + 1, 1, none⟩ = false := Ko.out.frozen 1
  have hlt1 := Ko.out.lt
  have hlt0 := Kx.out.lt
  go_wp2_with fail
  refine (hDM.out _ Kx.out.s Kx.out.t).mono ?_
  rintro e w2 ⟨A1, c1, A2, c2, rfl, hs1, hs2, hb⟩
  (try dsimp only at hs1 hs2)
  (try dsimp only)
  clear qx0 qx1 qx2 qx3 qo0 qo1 fo0 fo1 hlt1 hlt0
  replace Kx := Lib.hid (Kx.out.keep hb)
  replace Ko := Lib.hid (Ko.out.keep hb)
  replace HB := Lib.hid (below_mono HB.out hb)
  clear hb
  have S1 := Lib.hid hs1
  have S2 := Lib.hid hs2
  clear hs1 hs2
  obtain ⟨qx0, qx1, qx2, qx3⟩ := Kx.out.k
  have qo0 : w2.cell? ⟨w.heap.size + 1, 0, none⟩ = some (.int .i64 0) := Ko.out.at_ 0 rfl
  have qo1 : w2.cell? ⟨w.heap.size + 1, 1, none⟩ = some (.int .i64 0) := Ko.out.at_ 1 rfl
  have fo0 : w2.frozen? ⟨w.heap.size + 1, 0, none⟩ = false := Ko.out.frozen 0
  have fo1 : w2.frozen? ⟨w.heap.size + 1, 1, none⟩ = false := Ko.out.frozen 1
  have hlt1 := Ko.out.lt
  have hlt0 := Kx.out.lt
  go_upto_region 5 with fail
  generalize hw3 : (w2.alloc (.cells #[.bool (wOf (q.num.fdiv q.den)).1, .slice A1 (wOf (q.num.fdiv q.den)).2.length c1] 57)).alloc (.cells #[.bool (wOf (ivR q 40)).1, .slice A2 (wOf (ivR q 40)).2.length c2] 57) = w3 at *
  have KQ : Hid (BxW w3 w2.heap.size (q.num.fdiv q.den) A1 c1) := by rw [← hw3]; exact (BxW.fresh rfl S1.out).keep (blw1 _ _)
  have I : Hid (SO w w3 (w2.heap.size + 1) q A c B d (ivR q 40) A2 c2) := by rw [← hw3]; exact ⟨(Kx.out.alloc _).alloc _, (Ko.out.alloc _).alloc _, BxW.fresh (by simp) (S2.out.alloc _), by have := Ko.out.lt; omega, below_mono (below_mono HB.out (blw1 _ _)) (blw1 _ _)⟩
  clear hw3
  clear qx0 qx1 qx2 qx3 qo0 qo1 fo0 fo1 hlt1 hlt0
  clear Kx Ko HB S1 S2
  have qq0 := KQ.out.k.1
  have qq1 := KQ.out.k.2
  go_wp2_with fail
  refine (hIn.out _ _ _ KQ.out.s).mono ?_
  rw [hiv]
  rintro e w4 ⟨rfl, hb⟩
  replace I := Lib.hid (I.out.call hb)
  clear hb qq0 qq1 KQ hCk hDM hIn
  generalize w2.heap.size + 1 = gr at *
  by_cases hr : -9223372036854775808 ≤ q.num.fdiv q.den ∧ q.num.fdiv q.den ≤ 9223372036854775807
  · rw [if_pos hr]
    dsimp only
    by_cases h1 : q.num.fdiv q.den < -2097152
    · have HO := Lib.hid (hout (.inl h1))
      have t1 : decide (q.num.fdiv q.den < -2097152) = true := decide_eq_true h1
      clear hout hbd hfull hnone h1 hr hiv
      have I1 := I.out
      obtain ⟨qx0, qx1, qx2, qx3, qo0, qo1, fo0, fo1, qr0, qr1, fr0, fr1, hgl⟩ := I1.cells
      go_wp2
      exact bodyPost_ret (v := .tuple #[.agg #[.int .i64 0, .int .i64 0], .int .i64 16]) (by simp [results, Try.results33, go_sem, qo0, qo1]) rfl (by rw [HO.out]; exact ⟨rfl, I.out.fin _ _⟩)
    · by_cases h2 : 2097152 < q.num.fdiv q.den
      · have HO := Lib.hid (hout (.inr h2))
        have t1 : decide (q.num.fdiv q.den < -2097152) = false := decide_eq_false h1
        have t2 : decide (2097152 < q.num.fdiv q.den) = true := decide_eq_true h2
        clear hout hbd hfull hnone h1 h2 hr hiv
        have I1 := I.out
        obtain ⟨qx0, qx1, qx2, qx3, qo0, qo1, fo0, fo1, qr0, qr1, fr0, fr1, hgl⟩ := I1.cells
        go_wp2
        exact bodyPost_ret (v := .tuple #[.agg #[.int .i64 0, .int .i64 0], .int .i64 16]) (by simp [results, Try.results33, go_sem, qo0, qo1]) rfl (by rw [HO.out]; exact ⟨rfl, I.out.fin _ _⟩)
      · have t1 : decide (q.num.fdiv q.den < -2097152) = false := decide_eq_false h1
        have t2 : decide (2097152 < q.num.fdiv q.den) = false := decide_eq_false h2
        have HBD : Hid (∀ e, e ≤ 40 → -2305843009213693952 ≤ ivB q e ∧ ivB q e ≤ 2305844108725321728) := fun e he => hbd e he (by omega) (by omega)
        have HN := Lib.hid hnone
        clear hout hbd hnone hr hiv
        skip
        go_upto_region 9 with fail
        rw [← hfull]
        clear hfull
        go_wp2
        go_loopw [10, 11] (fun s10 s11 wr => ∃ (e : Nat) (A2 : Option Addr) (c2 : Nat), e ≤ 40 ∧ s10 = .int .i64 (ivB q e) ∧ s11 = .int .i64 ((e : Int) - 1) ∧ SO w wr gr q A c B d (ivR q e) A2 c2) (fun _ v _ => (intOf v + 1).toNat)
        case atStart => exact ⟨40, A2, c2, Nat.le_refl _, rfl, rfl, I.out⟩
        case round =>
          obtain ⟨e, A2, c2, he, rfl, rfl, hI⟩ := hrel
          replace I := Lib.hid hI
          clear hI
          by_cases h0 : 0 < e
          · have t5 : decide ((0 : Int) ≤ (e : Int) - 1) = true := decide_eq_true (by omega)
            obtain ⟨b1, b2⟩ := HRB.out e
            obtain ⟨l1, l2⟩ := HBD.out e he
            obtain ⟨m1, m2⟩ := HBD.out (e - 1) (by omega)
            have hLe := HL.out e h0 he
            have hMo := HM.out e h0 he
            have fd := hfr.out (q.den : Int) (by omega) (by omega)
            have fr := hfr.out (ivR q e) (by omega) (by omega)
            have fl := hfr.out ((q.den : Int) - ivR q e) (by omega) (by omega)
            have fm := hfr.out (ivR q e - ((q.den : Int) - ivR q e)) (by omega) (by omega)
            have fa := hfr2.out (ivR q e + ivR q e) (by omega) (by omega)
            have hSub : Hid (∀ V A2 c2, Sl V B (frQ q).2.2 d → Sl V A2 (wOf (ivR q e)).2 c2 → Calls Try.prog 56 #[.agg #[.bool (frQ q).2.1, .slice B (frQ q).2.2.length d], .agg #[.bool (wOf (ivR q e)).1, .slice A2 (wOf (ivR q e)).2.length c2]] V (WRes (wOf (q.den - ivR q e), 0) V)) := fun V A2 c2 s t => by have h := wsub_any (frQ q).2.1 (wOf (ivR q e)).1 B A2 (frQ q).2.2 (wOf (ivR q e)).2 d c2 V s t; rwa [show (frQ q).2 = wOf q.den from rfl, subS_z (vz_wOf fd) (vz_wOf fr) fl] at h
            have hCmp : Hid (∀ V A2 c2 A3 c3, Sl V A2 (wOf (ivR q e)).2 c2 → Sl V A3 (wOf (q.den - ivR q e)).2 c3 → Calls Try.prog 57 #[.agg #[.bool (wOf (ivR q e)).1, .slice A2 (wOf (ivR q e)).2.length c2], .agg #[.bool (wOf ((q.den : Int) - ivR q e)).1, .slice A3 (wOf ((q.den : Int) - ivR q e)).2.length c3]] V fun e_ V' => e_ = .returned (.tuple #[.int .i64 (cmpZ (ivR q e) (q.den - ivR q e)), .int .i64 0]) ∧ Below V.heap.size V V') := fun V A2 c2 A3 c3 s t => by have h := cmp_any (wOf (ivR q e)).1 (wOf ((q.den : Int) - ivR q e)).1 A2 A3 (wOf (ivR q e)).2 (wOf ((q.den : Int) - ivR q e)).2 c2 c3 V s t; rwa [cmpS_z (vz_wOf fr) (vz_wOf fl)] at h
            have hAdd : Hid (∀ V A2 c2, Sl V A2 (wOf (ivR q e)).2 c2 → Calls Try.prog 42 #[.agg #[.bool (wOf (ivR q e)).1, .slice A2 (wOf (ivR q e)).2.length c2], .agg #[.bool (wOf (ivR q e)).1, .slice A2 (wOf (ivR q e)).2.length c2]] V (WRes (wOf (ivR q e + ivR q e), 0) V)) := fun V A2 c2 s => by have h := wadd_any (wOf (ivR q e)).1 (wOf (ivR q e)).1 A2 A2 (wOf (ivR q e)).2 (wOf (ivR q e)).2 c2 c2 V s s; rwa [addS_z (vz_wOf fr) (vz_wOf fr) fa] at h
            have hSu2 : Hid (∀ V A2 c2 A3 c3, Sl V A2 (wOf (ivR q e)).2 c2 → Sl V A3 (wOf (q.den - ivR q e)).2 c3 → Calls Try.prog 56 #[.agg #[.bool (wOf (ivR q e)).1, .slice A2 (wOf (ivR q e)).2.length c2], .agg #[.bool (wOf ((q.den : Int) - ivR q e)).1, .slice A3 (wOf ((q.den : Int) - ivR q e)).2.length c3]] V (WRes (wOf (ivR q e - (q.den - ivR q e)), 0) V)) := fun V A2 c2 A3 c3 s t => by have h := wsub_any (wOf (ivR q e)).1 (wOf ((q.den : Int) - ivR q e)).1 A2 A3 (wOf (ivR q e)).2 (wOf ((q.den : Int) - ivR q e)).2 c2 c3 V s t; rwa [subS_z (vz_wOf fr) (vz_wOf fl) fm] at h
            clear fd fr fl fm fa
            have I1 := I.out
            obtain ⟨qx0, qx1, qx2, qx3, qo0, qo1, fo0, fo1, qr0, qr1, fr0, fr1, hgl⟩ := I1.cells
            clear I1
            go_wp2_with fail
            refine (hSub.out _ _ _ I.out.x.t I.out.r.s).mono ?_
            rintro e_ w5 ⟨A3, c3, rfl, hs3, hb⟩
            (try dsimp only at hs3)
            (try dsimp only)
            replace I := Lib.hid (I.out.call hb)
            have S3 := Lib.hid hs3
            clear hb hs3 qx0 qx1 qx2 qx3 qo0 qo1 fo0 fo1 qr0 qr1 fr0 fr1 hgl
            have I1 := I.out
            obtain ⟨qx0, qx1, qx2, qx3, qo0, qo1, fo0, fo1, qr0, qr1, fr0, fr1, hgl⟩ := I1.cells
            clear I1
            go_wp2_with fail
            refine (hCmp.out _ _ _ _ _ (I.out.r.s.alloc _) (S3.out.alloc _)).mono ?_
            rintro e_ w6 ⟨rfl, hb⟩
            have K3 : Hid (BxW w6 w5.heap.size (q.den - ivR q e) A3 c3) := (BxW.fresh rfl S3.out).keep hb
            replace I := Lib.hid (I.out.call (below_mono (blw1 _ _) hb))
            clear hb S3 qx0 qx1 qx2 qx3 qo0 qo1 fo0 fo1 qr0 qr1 fr0 fr1 hgl
            have I1 := I.out
            obtain ⟨qx0, qx1, qx2, qx3, qo0, qo1, fo0, fo1, qr0, qr1, fr0, fr1, hgl⟩ := I1.cells
            clear I1
            by_cases hl : ivR q e < q.den - ivR q e
            · have t6 : decide (cmpZ (ivR q e) (q.den - ivR q e) < 0) = true := decide_eq_true (by unfold cmpZ; rw [if_pos hl]; omega)
              obtain ⟨E1, E2⟩ := hLe (by omega)
              replace E1 := Lib.hid E1
              replace E2 := Lib.hid E2
              clear hMo
              go_wp2_with fail
              refine (hAdd.out _ _ _ I.out.r.s).mono ?_
              rintro e_ w7 ⟨A4, c4, rfl, hs4, hb⟩
              (try dsimp only at hs4)
              (try dsimp only)
              replace I := Lib.hid (I.out.call hb)
              have S4 := Lib.hid hs4
              clear hb hs4 qx0 qx1 qx2 qx3 qo0 qo1 fo0 fo1 qr0 qr1 fr0 fr1 hgl
              have I1 := I.out
              obtain ⟨qx0, qx1, qx2, qx3, qo0, qo1, fo0, fo1, qr0, qr1, fr0, fr1, hgl⟩ := I1.cells
              clear I1
              go_wp2_with fail
              go_roundw
              case rel => exact ⟨e - 1, A4, c4, by omega, by rw [E1.out], by go_num, by rw [E2.out]; exact I.out.put S4.out⟩
              case measure => simp [intOf]; omega
            · have t6 : decide (cmpZ (ivR q e) (q.den - ivR q e) < 0) = false := decide_eq_false (by unfold cmpZ; rw [if_neg hl]; split <;> omega)
              obtain ⟨E1, E2⟩ := hMo (by omega)
              replace E1 := Lib.hid E1
              replace E2 := Lib.hid E2
              clear hLe
              have qk0 := K3.out.k.1
              have qk1 := K3.out.k.2
              go_wp2_with fail
              refine (hSu2.out _ _ _ _ _ I.out.r.s K3.out.s).mono ?_
              rintro e_ w7 ⟨A4, c4, rfl, hs4, hb⟩
              (try dsimp only at hs4)
              (try dsimp only)
              replace I := Lib.hid (I.out.call hb)
              have S4 := Lib.hid hs4
              clear hb hs4 qk0 qk1 qx0 qx1 qx2 qx3 qo0 qo1 fo0 fo1 qr0 qr1 fr0 fr1 hgl
              have I1 := I.out
              obtain ⟨qx0, qx1, qx2, qx3, qo0, qo1, fo0, fo1, qr0, qr1, fr0, fr1, hgl⟩ := I1.cells
              clear I1
              go_wp2_with fail
              go_roundw
              case rel => exact ⟨e - 1, A4, c4, by omega, by rw [E1.out], by go_num, by rw [E2.out]; exact I.out.put S4.out⟩
              case measure => simp [intOf]; omega
          · obtain rfl : e = 0 := by omega
            have hbd0 := HBD.out 0 (by omega)
            have hlo := HN.out.1
            rw [hlo] at hbd0 ⊢
            have I2 : Hid (SO w wr gr q A c B d (ivRem q) A2 c2) := HN.out.2 ▸ I.out
            have frm : fitZ (ivRem q) := by have h := HRB.out 0; rw [HN.out.2] at h; exact hfr.out _ (by omega) (by omega)
            have hlen : ((wOf (ivRem q)).2.length = 0) ↔ ivRem q = 0 := (vz_wOf frm).zero
            clear I
            have I1 := I2.out
            obtain ⟨qx0, qx1, qx2, qx3, qo0, qo1, fo0, fo1, qr0, qr1, fr0, fr1, hgl⟩ := I1.cells
            clear I1 HL HM HBD HN hfr hfr2 HRB hlo frm h0
            obtain ⟨hb1, hb2⟩ := hbd0
            have hS : Hid (∀ h, ivHi q = h → ivS q = madeS (ivLo q) h) := fun h e => by subst e; rfl
            by_cases hz : ivRem q = 0
            · have t7 : decide ((0 : Int) < ((wOf (ivRem q)).2.length : Int)) = false := decide_eq_false (by have := hlen.2 hz; omega)
              have t8 : decide (0 < (wOf (ivRem q)).2.length) = false := decide_eq_false (by have := hlen.2 hz; omega)
              have HS : Hid (ivS q = madeS (ivLo q) (ivLo q)) := hS.out _ (if_pos hz)
              clear hS hlen hz
              go_wp2_with fail
              refine (ivmade_any (ivLo q) (ivLo q) _).mono ?_
              rw [← HS.out]
              obtain ⟨⟨z1, z2, z3⟩, hz⟩ : ∃ r, r = ivS q := ⟨_, rfl⟩
              rw [← hz]
              rintro e_ w8 ⟨rfl, hb⟩
              dsimp only
              replace I2 := Lib.hid (I2.out.call hb)
              clear hb qx0 qx1 qx2 qx3 qo0 qo1 fo0 fo1 qr0 qr1 fr0 fr1 hgl
              have I1 := I2.out
              obtain ⟨qx0, qx1, qx2, qx3, qo0, qo1, fo0, fo1, qr0, qr1, fr0, fr1, hgl⟩ := I1.cells
              clear I1
              go_wp2
              exact bodyPost_ret (v := .tuple #[.agg #[.int .i64 z1, .int .i64 z2], .int .i64 z3]) (by simp [results, Try.results33, go_sem, qo0, qo1]) rfl ⟨by rw [← hz], I2.out.fin _ _⟩
            · have t7 : decide ((0 : Int) < ((wOf (ivRem q)).2.length : Int)) = true := decide_eq_true (by have := mt hlen.1 hz; omega)
              have t8 : decide (0 < (wOf (ivRem q)).2.length) = true := decide_eq_true (by have := mt hlen.1 hz; omega)
              have HS : Hid (ivS q = madeS (ivLo q) (ivLo q + 1)) := hS.out _ (if_neg hz)
              clear hS hlen hz
              go_wp2_with fail
              refine (ivmade_any (ivLo q) (ivLo q + 1) _).mono ?_
              rw [← HS.out]
              obtain ⟨⟨z1, z2, z3⟩, hz⟩ : ∃ r, r = ivS q := ⟨_, rfl⟩
              rw [← hz]
              rintro e_ w8 ⟨rfl, hb⟩
              dsimp only
              replace I2 := Lib.hid (I2.out.call hb)
              clear hb qx0 qx1 qx2 qx3 qo0 qo1 fo0 fo1 qr0 qr1 fr0 fr1 hgl
              have I1 := I2.out
              obtain ⟨qx0, qx1, qx2, qx3, qo0, qo1, fo0, fo1, qr0, qr1, fr0, fr1, hgl⟩ := I1.cells
              clear I1
              go_wp2
              exact bodyPost_ret (v := .tuple #[.agg #[.int .i64 z1, .int .i64 z2], .int .i64 z3]) (by simp [results, Try.results33, go_sem, qo0, qo1]) rfl ⟨by rw [← hz], I2.out.fin _ _⟩
  · rw [if_neg hr]
    dsimp only
    have HO := Lib.hid (hout (by omega))
    clear hout hbd hfull hnone hr hiv
    have I1 := I.out
    obtain ⟨qx0, qx1, qx2, qx3, qo0, qo1, fo0, fo1, qr0, qr1, fr0, fr1, hgl⟩ := I1.cells
    go_wp2
    exact bodyPost_ret (v := .tuple #[.agg #[.int .i64 0, .int .i64 0], .int .i64 16]) (by simp [results, Try.results33, go_sem, qo0, qo1]) rfl (by rw [HO.out]; exact ⟨rfl, I.out.fin _ _⟩)

end Go.Proofs.Ytghallnooijfhaa

import Derived.Test.YtghallnooijfhaaMg1
import Derived.Test.YtghallnooijfhaaMg8
import Derived.Test.YtghallnooijfhaaMg5
import Derived.Test.YtghallnooijfhaaCal3
import Derived.Test.YtghallnooijfhaaF13
import Derived.Deep.CutRange
import Derived.Deep.RegionHeld3
import Derived.IntWalk
namespace Go.Proofs.Ytghallnooijfhaa
open Go.RowKit
attribute [local go_sem ↓] Go.wp_at_zero Go.wp_at_succ
set_option maxRecDepth 100000 in
set_option maxHeartbeats 2000000 in
theorem emul_w (n1 n2 n3 n4 : Bool) (A1 A2 A3 A4 : Option Addr) (l1 l2 l3 l4 : List Nat) (c1 c2 c3 c4 : Nat) (R : (Bool × List Nat) × (Bool × List Nat)) (hR : bothF n1 l1 n2 l2 n3 l3 n4 l4 mulV = (R, 0)) (w : World) (hs1 : Sl w A1 l1 c1) (hs2 : Sl w A2 l2 c2) (hs3 : Sl w A3 l3 c3) (hs4 : Sl w A4 l4 c4) :
    Calls Try.prog 21 #[.agg #[.bool n1, .slice A1 l1.length c1, .bool n2, .slice A2 l2.length c2], .agg #[.bool n3, .slice A3 l3.length c3, .bool n4, .slice A4 l4.length c4]] w (FRes1 R w) := by
  have S1 := Lib.hid hs1
  have S2 := Lib.hid hs2
  have S3 := Lib.hid hs3
  have S4 := Lib.hid hs4
  have B : Hid (Below w.heap.size w w) := Below.refl _ _
  clear hs1 hs2 hs3 hs4
  have HR := Lib.hid hR
  clear hR
  obtain ⟨⟨nx, lx⟩, ⟨ny, ly⟩⟩ := R
  go_enter Try.func21, Try.ntmps21
  go_wp2_with fail
  refine (fmul_good n1 n2 n3 n4 _ _ _ _ l1 l2 l3 l4 _ _ _ _ (congrArg Prod.snd HR.out) _ (((S1.out.alloc _).alloc _).alloc _) (((S2.out.alloc _).alloc _).alloc _) (((S3.out.alloc _).alloc _).alloc _) (((S4.out.alloc _).alloc _).alloc _)).mono ?_
  rw [HR.out]
  rintro e w5 ⟨A5, c5, B5, d5, rfl, hs5, ht5, hb⟩
  replace S1 : Hid (Sl w5 A1 l1 c1) := Sl.below (((S1.out.alloc _).alloc _).alloc _) hb
  replace S2 : Hid (Sl w5 A2 l2 c2) := Sl.below (((S2.out.alloc _).alloc _).alloc _) hb
  replace S3 : Hid (Sl w5 A3 l3 c3) := Sl.below (((S3.out.alloc _).alloc _).alloc _) hb
  replace S4 : Hid (Sl w5 A4 l4 c4) := Sl.below (((S4.out.alloc _).alloc _).alloc _) hb
  have Fo : Hid (Ff w5 (w.heap.size + 1 + 1)) := Ff.keep (Ff.fresh (by simp) _ _) (Cf.fresh (by simp) _ _ _ _ _ _ _ _ _) hb
  have Ka : Hid (Cf w5 w.heap.size n1 A1 l1.length c1 n2 A2 l2.length c2) := Cf.keep (Cf.keep (Cf.keep (Cf.fresh (by simp) _ _ _ _ _ _ _ _ _) (blw1 _ _)) (blw1 _ _)) hb
  have Kb : Hid (Cf w5 (w.heap.size + 1) n3 A3 l3.length c3 n4 A4 l4.length c4) := Cf.keep (Cf.keep (Cf.fresh (by simp) _ _ _ _ _ _ _ _ _) (blw1 _ _)) hb
  have Ko : Hid (Cf w5 (w.heap.size + 1 + 1) false none 0 0 false none 0 0) := Cf.keep (Cf.fresh (by simp) _ _ _ _ _ _ _ _ _) hb
  replace B : Hid (Below w.heap.size w w5) := below_mono (below_mono (below_mono (below_mono B.out (blw1 _ _)) (blw1 _ _)) (blw1 _ _)) hb
  clear hb
  (try dsimp only at hs5 ht5)
  (try dsimp only)
  have Sx : Hid (Sl w5 A5 lx c5) := hs5
  clear hs5
  have Sy : Hid (Sl w5 B5 ly d5) := ht5
  clear ht5
  have hza : w.heap.size < w5.heap.size := lt_of_cell (a := ⟨w.heap.size, 0, none⟩) Ka.out.1
  have hzb : w.heap.size + 1 < w5.heap.size := lt_of_cell (a := ⟨w.heap.size + 1, 0, none⟩) Kb.out.1
  have hzo : w.heap.size + 1 + 1 < w5.heap.size := lt_of_cell (a := ⟨w.heap.size + 1 + 1, 0, none⟩) Ko.out.1
  clear S1
  clear S2
  clear S3
  clear S4
  clear Ka
  clear Kb
  have hkof := hzo
  obtain ⟨qo0, qo1, qo2, qo3⟩ := Ko.out
  obtain ⟨fo0, fo1, fo2, fo3⟩ := Fo.out
  go_wp2
  exact bodyPost_ret (v := .agg #[.bool nx, .slice A5 lx.length c5, .bool ny, .slice B5 ly.length d5]) (by simp [results, Try.results21, go_sem, qo0, qo1, qo2, qo3, hzo]) rfl (part_end (r := ((nx, lx), (ny, ly))) Sx.out Sy.out Ko.out B.out (by omega) _ _ _ _ _)

set_option maxRecDepth 100000 in
set_option maxHeartbeats 2000000 in
theorem eadd_w (n1 n2 n3 n4 : Bool) (A1 A2 A3 A4 : Option Addr) (l1 l2 l3 l4 : List Nat) (c1 c2 c3 c4 : Nat) (R : (Bool × List Nat) × (Bool × List Nat)) (hR : bothF n1 l1 n2 l2 n3 l3 n4 l4 addV = (R, 0)) (w : World) (hs1 : Sl w A1 l1 c1) (hs2 : Sl w A2 l2 c2) (hs3 : Sl w A3 l3 c3) (hs4 : Sl w A4 l4 c4) :
    Calls Try.prog 38 #[.agg #[.bool n1, .slice A1 l1.length c1, .bool n2, .slice A2 l2.length c2], .agg #[.bool n3, .slice A3 l3.length c3, .bool n4, .slice A4 l4.length c4]] w (FRes1 R w) := by
  have S1 := Lib.hid hs1
  have S2 := Lib.hid hs2
  have S3 := Lib.hid hs3
  have S4 := Lib.hid hs4
  have B : Hid (Below w.heap.size w w) := Below.refl _ _
  clear hs1 hs2 hs3 hs4
  have HR := Lib.hid hR
  clear hR
  obtain ⟨⟨nx, lx⟩, ⟨ny, ly⟩⟩ := R
  go_enter Try.func38, Try.ntmps38
  go_wp2_with fail
  refine (fadd_good n1 n2 n3 n4 _ _ _ _ l1 l2 l3 l4 _ _ _ _ (congrArg Prod.snd HR.out) _ (((S1.out.alloc _).alloc _).alloc _) (((S2.out.alloc _).alloc _).alloc _) (((S3.out.alloc _).alloc _).alloc _) (((S4.out.alloc _).alloc _).alloc _)).mono ?_
  rw [HR.out]
  rintro e w5 ⟨A5, c5, B5, d5, rfl, hs5, ht5, hb⟩
  replace S1 : Hid (Sl w5 A1 l1 c1) := Sl.below (((S1.out.alloc _).alloc _).alloc _) hb
  replace S2 : Hid (Sl w5 A2 l2 c2) := Sl.below (((S2.out.alloc _).alloc _).alloc _) hb
  replace S3 : Hid (Sl w5 A3 l3 c3) := Sl.below (((S3.out.alloc _).alloc _).alloc _) hb
  replace S4 : Hid (Sl w5 A4 l4 c4) := Sl.below (((S4.out.alloc _).alloc _).alloc _) hb
  have Fo : Hid (Ff w5 (w.heap.size + 1 + 1)) := Ff.keep (Ff.fresh (by simp) _ _) (Cf.fresh (by simp) _ _ _ _ _ _ _ _ _) hb
  have Ka : Hid (Cf w5 w.heap.size n1 A1 l1.length c1 n2 A2 l2.length c2) := Cf.keep (Cf.keep (Cf.keep (Cf.fresh (by simp) _ _ _ _ _ _ _ _ _) (blw1 _ _)) (blw1 _ _)) hb
  have Kb : Hid (Cf w5 (w.heap.size + 1) n3 A3 l3.length c3 n4 A4 l4.length c4) := Cf.keep (Cf.keep (Cf.fresh (by simp) _ _ _ _ _ _ _ _ _) (blw1 _ _)) hb
  have Ko : Hid (Cf w5 (w.heap.size + 1 + 1) false none 0 0 false none 0 0) := Cf.keep (Cf.fresh (by simp) _ _ _ _ _ _ _ _ _) hb
  replace B : Hid (Below w.heap.size w w5) := below_mono (below_mono (below_mono (below_mono B.out (blw1 _ _)) (blw1 _ _)) (blw1 _ _)) hb
  clear hb
  (try dsimp only at hs5 ht5)
  (try dsimp only)
  have Sx : Hid (Sl w5 A5 lx c5) := hs5
  clear hs5
  have Sy : Hid (Sl w5 B5 ly d5) := ht5
  clear ht5
  have hza : w.heap.size < w5.heap.size := lt_of_cell (a := ⟨w.heap.size, 0, none⟩) Ka.out.1
  have hzb : w.heap.size + 1 < w5.heap.size := lt_of_cell (a := ⟨w.heap.size + 1, 0, none⟩) Kb.out.1
  have hzo : w.heap.size + 1 + 1 < w5.heap.size := lt_of_cell (a := ⟨w.heap.size + 1 + 1, 0, none⟩) Ko.out.1
  clear S1
  clear S2
  clear S3
  clear S4
  clear Ka
  clear Kb
  have hkof := hzo
  obtain ⟨qo0, qo1, qo2, qo3⟩ := Ko.out
  obtain ⟨fo0, fo1, fo2, fo3⟩ := Fo.out
  go_wp2
  exact bodyPost_ret (v := .agg #[.bool nx, .slice A5 lx.length c5, .bool ny, .slice B5 ly.length d5]) (by simp [results, Try.results38, go_sem, qo0, qo1, qo2, qo3, hzo]) rfl (part_end (r := ((nx, lx), (ny, ly))) Sx.out Sy.out Ko.out B.out (by omega) _ _ _ _ _)

set_option maxRecDepth 100000 in
set_option maxHeartbeats 2000000 in
theorem esub_w (n1 n2 n3 n4 : Bool) (A1 A2 A3 A4 : Option Addr) (l1 l2 l3 l4 : List Nat) (c1 c2 c3 c4 : Nat) (R : (Bool × List Nat) × (Bool × List Nat)) (hR : bothF n1 l1 n2 l2 n3 l3 n4 l4 subV = (R, 0)) (w : World) (hs1 : Sl w A1 l1 c1) (hs2 : Sl w A2 l2 c2) (hs3 : Sl w A3 l3 c3) (hs4 : Sl w A4 l4 c4) :
    Calls Try.prog 39 #[.agg #[.bool n1, .slice A1 l1.length c1, .bool n2, .slice A2 l2.length c2], .agg #[.bool n3, .slice A3 l3.length c3, .bool n4, .slice A4 l4.length c4]] w (FRes1 R w) := by
  have S1 := Lib.hid hs1
  have S2 := Lib.hid hs2
  have S3 := Lib.hid hs3
  have S4 := Lib.hid hs4
  have B : Hid (Below w.heap.size w w) := Below.refl _ _
  clear hs1 hs2 hs3 hs4
  have HR := Lib.hid hR
  clear hR
  obtain ⟨⟨nx, lx⟩, ⟨ny, ly⟩⟩ := R
  go_enter Try.func39, Try.ntmps39
  go_wp2_with fail
  refine (fsub_good n1 n2 n3 n4 _ _ _ _ l1 l2 l3 l4 _ _ _ _ (congrArg Prod.snd HR.out) _ (((S1.out.alloc _).alloc _).alloc _) (((S2.out.alloc _).alloc _).alloc _) (((S3.out.alloc _).alloc _).alloc _) (((S4.out.alloc _).alloc _).alloc _)).mono ?_
  rw [HR.out]
  rintro e w5 ⟨A5, c5, B5, d5, rfl, hs5, ht5, hb⟩
  replace S1 : Hid (Sl w5 A1 l1 c1) := Sl.below (((S1.out.alloc _).alloc _).alloc _) hb
  replace S2 : Hid (Sl w5 A2 l2 c2) := Sl.below (((S2.out.alloc _).alloc _).alloc _) hb
  replace S3 : Hid (Sl w5 A3 l3 c3) := Sl.below (((S3.out.alloc _).alloc _).alloc _) hb
  replace S4 : Hid (Sl w5 A4 l4 c4) := Sl.below (((S4.out.alloc _).alloc _).alloc _) hb
  have Fo : Hid (Ff w5 (w.heap.size + 1 + 1)) := Ff.keep (Ff.fresh (by simp) _ _) (Cf.fresh (by simp) _ _ _ _ _ _ _ _ _) hb
  have Ka : Hid (Cf w5 w.heap.size n1 A1 l1.length c1 n2 A2 l2.length c2) := Cf.keep (Cf.keep (Cf.keep (Cf.fresh (by simp) _ _ _ _ _ _ _ _ _) (blw1 _ _)) (blw1 _ _)) hb
  have Kb : Hid (Cf w5 (w.heap.size + 1) n3 A3 l3.length c3 n4 A4 l4.length c4) := Cf.keep (Cf.keep (Cf.fresh (by simp) _ _ _ _ _ _ _ _ _) (blw1 _ _)) hb
  have Ko : Hid (Cf w5 (w.heap.size + 1 + 1) false none 0 0 false none 0 0) := Cf.keep (Cf.fresh (by simp) _ _ _ _ _ _ _ _ _) hb
  replace B : Hid (Below w.heap.size w w5) := below_mono (below_mono (below_mono (below_mono B.out (blw1 _ _)) (blw1 _ _)) (blw1 _ _)) hb
  clear hb
  (try dsimp only at hs5 ht5)
  (try dsimp only)
  have Sx : Hid (Sl w5 A5 lx c5) := hs5
  clear hs5
  have Sy : Hid (Sl w5 B5 ly d5) := ht5
  clear ht5
  have hza : w.heap.size < w5.heap.size := lt_of_cell (a := ⟨w.heap.size, 0, none⟩) Ka.out.1
  have hzb : w.heap.size + 1 < w5.heap.size := lt_of_cell (a := ⟨w.heap.size + 1, 0, none⟩) Kb.out.1
  have hzo : w.heap.size + 1 + 1 < w5.heap.size := lt_of_cell (a := ⟨w.heap.size + 1 + 1, 0, none⟩) Ko.out.1
  clear S1
  clear S2
  clear S3
  clear S4
  clear Ka
  clear Kb
  have hkof := hzo
  obtain ⟨qo0, qo1, qo2, qo3⟩ := Ko.out
  obtain ⟨fo0, fo1, fo2, fo3⟩ := Fo.out
  go_wp2
  exact bodyPost_ret (v := .agg #[.bool nx, .slice A5 lx.length c5, .bool ny, .slice B5 ly.length d5]) (by simp [results, Try.results39, go_sem, qo0, qo1, qo2, qo3, hzo]) rfl (part_end (r := ((nx, lx), (ny, ly))) Sx.out Sy.out Ko.out B.out (by omega) _ _ _ _ _)

set_option maxRecDepth 100000 in
set_option maxHeartbeats 2000000 in
theorem ewhole_w (n : Int) (h1 : -9223372036854775808 ≤ n) (h2 : n ≤ 9223372036854775807) (w : World) :
    Calls Try.prog 35 #[.int .i64 n] w (FRes1 (redZ n 1) w) := by
  obtain ⟨R, hR⟩ : ∃ R, redZ n 1 = R := ⟨_, rfl⟩
  have HA : Hid (∀ V, Calls Try.prog 19 #[.int .i64 n, .int .i64 1] V (FRes (R, 0) V)) := fun V => by have h := of_any n 1 h1 h2 (by omega) (by omega) V; unfold ofS at h; rwa [if_neg (by omega), hR] at h
  rw [hR]
  clear hR
  have B : Hid (Below w.heap.size w w) := Below.refl _ _
  obtain ⟨⟨nx, lx⟩, ⟨ny, ly⟩⟩ := R
  go_enter Try.func35, Try.ntmps35
  go_wp2_with fail
  refine (HA.out _).mono ?_
  rintro e w5 ⟨A5, c5, B5, d5, rfl, hs5, ht5, hb⟩
  have Fo : Hid (Ff w5 w.heap.size) := Ff.keep (Ff.fresh (by simp) _ _) (Cf.fresh (by simp) _ _ _ _ _ _ _ _ _) hb
  have Ko : Hid (Cf w5 w.heap.size false none 0 0 false none 0 0) := Cf.keep (Cf.fresh (by simp) _ _ _ _ _ _ _ _ _) hb
  replace B : Hid (Below w.heap.size w w5) := below_mono (below_mono B.out (blw1 _ _)) hb
  clear hb
  (try dsimp only at hs5 ht5)
  (try dsimp only)
  have Sx : Hid (Sl w5 A5 lx c5) := hs5
  clear hs5
  have Sy : Hid (Sl w5 B5 ly d5) := ht5
  clear ht5
  have hzo : w.heap.size < w5.heap.size := lt_of_cell (a := ⟨w.heap.size, 0, none⟩) Ko.out.1
  have hkof := hzo
  obtain ⟨qo0, qo1, qo2, qo3⟩ := Ko.out
  obtain ⟨fo0, fo1, fo2, fo3⟩ := Fo.out
  go_wp2
  exact bodyPost_ret (v := .agg #[.bool nx, .slice A5 lx.length c5, .bool ny, .slice B5 ly.length d5]) (by simp [results, Try.results35, go_sem, qo0, qo1, qo2, qo3, hzo]) rfl (part_end (r := ((nx, lx), (ny, ly))) Sx.out Sy.out Ko.out B.out (by omega) _ _ _ _ _)

theorem emul_q {k j : Nat} {p q : Rat} (hp : Few k p) (hq : Few j q) (hk : k + j ≤ 4096) (w : World) (A1 A2 A3 A4 : Option Addr) (cA1 cA2 cA3 cA4 : Nat) (hs1 : Sl w A1 (frQ p).1.2 cA1) (hs2 : Sl w A2 (frQ p).2.2 cA2) (hs3 : Sl w A3 (frQ q).1.2 cA3) (hs4 : Sl w A4 (frQ q).2.2 cA4) :
    Calls Try.prog 21 #[.agg #[.bool (frQ p).1.1, .slice A1 (frQ p).1.2.length cA1, .bool (frQ p).2.1, .slice A2 (frQ p).2.2.length cA2], .agg #[.bool (frQ q).1.1, .slice A3 (frQ q).1.2.length cA3, .bool (frQ q).2.1, .slice A4 (frQ q).2.2.length cA4]] w (FRes1 (frQ (p * q)) w) :=
  emul_w _ _ _ _ A1 A2 A3 A4 _ _ _ _ cA1 cA2 cA3 cA4 _ (q_mul hp hq hk).1 w hs1 hs2 hs3 hs4

theorem eadd_q {k j : Nat} {p q : Rat} (hp : Few k p) (hq : Few j q) (hk : k + j + 1 ≤ 4096) (w : World) (A1 A2 A3 A4 : Option Addr) (cA1 cA2 cA3 cA4 : Nat) (hs1 : Sl w A1 (frQ p).1.2 cA1) (hs2 : Sl w A2 (frQ p).2.2 cA2) (hs3 : Sl w A3 (frQ q).1.2 cA3) (hs4 : Sl w A4 (frQ q).2.2 cA4) :
    Calls Try.prog 38 #[.agg #[.bool (frQ p).1.1, .slice A1 (frQ p).1.2.length cA1, .bool (frQ p).2.1, .slice A2 (frQ p).2.2.length cA2], .agg #[.bool (frQ q).1.1, .slice A3 (frQ q).1.2.length cA3, .bool (frQ q).2.1, .slice A4 (frQ q).2.2.length cA4]] w (FRes1 (frQ (p + q)) w) :=
  eadd_w _ _ _ _ A1 A2 A3 A4 _ _ _ _ cA1 cA2 cA3 cA4 _ (q_add hp hq hk).1 w hs1 hs2 hs3 hs4

theorem esub_q {k j : Nat} {p q : Rat} (hp : Few k p) (hq : Few j q) (hk : k + j + 1 ≤ 4096) (w : World) (A1 A2 A3 A4 : Option Addr) (cA1 cA2 cA3 cA4 : Nat) (hs1 : Sl w A1 (frQ p).1.2 cA1) (hs2 : Sl w A2 (frQ p).2.2 cA2) (hs3 : Sl w A3 (frQ q).1.2 cA3) (hs4 : Sl w A4 (frQ q).2.2 cA4) :
    Calls Try.prog 39 #[.agg #[.bool (frQ p).1.1, .slice A1 (frQ p).1.2.length cA1, .bool (frQ p).2.1, .slice A2 (frQ p).2.2.length cA2], .agg #[.bool (frQ q).1.1, .slice A3 (frQ q).1.2.length cA3, .bool (frQ q).2.1, .slice A4 (frQ q).2.2.length cA4]] w (FRes1 (frQ (p - q)) w) :=
  esub_w _ _ _ _ A1 A2 A3 A4 _ _ _ _ cA1 cA2 cA3 cA4 _ (q_sub hp hq hk).1 w hs1 hs2 hs3 hs4

theorem ewhole_q (n : Int) (h1 : -9223372036854775808 ≤ n) (h2 : n ≤ 9223372036854775807) (w : World) :
    Calls Try.prog 35 #[.int .i64 n] w (FRes1 (frQ (n : Rat)) w) := by
  have h := ewhole_w n h1 h2 w
  rwa [red_q (by omega), show Rat.divInt n 1 = (n : Rat) by rw [Rat.divInt_eq_div]; grind] at h

end Go.Proofs.Ytghallnooijfhaa

/- Walks: helpers of the laws of fractions. -/
import Derived.Test.YtmelbahbjdogdaaGreatDoorF3
import Derived.Test.YtmelbahbjdogdaaGreatDoorFMath
import Derived.Test.YtmelbahbjdogdaaGreatDoorF16
import Derived.Deep.RegionHeld3
namespace Go.Proofs.YtmelbahbjdogdaaGreatDoor
open Go.RowKit
attribute [local go_sem ↓] Go.wp_at_zero Go.wp_at_succ
theorem fsame_eq (n1 n2 : Bool) (A1 A2 A3 A4 : Option Addr) (l1 l2 : List Nat) (c1 c2 c3 c4 : Nat) (w : World) (hs1 : Sl w A1 l1 c1) (hs2 : Sl w A2 l2 c2) (hs3 : Sl w A3 l1 c3) (hs4 : Sl w A4 l2 c4) :
    Calls Tryz.prog 16 #[.agg #[.bool n1, .slice A1 l1.length c1, .bool n2, .slice A2 l2.length c2], .agg #[.bool n1, .slice A3 l1.length c3, .bool n2, .slice A4 l2.length c4]] w fun e w' => e = .returned (.bool true) ∧ Below w.heap.size w w' := by
  have h := fsameF_any n1 n2 n1 n2 A1 A2 A3 A4 l1 l2 l1 l2 c1 c2 c3 c4 w hs1 hs2 hs3 hs4
  rw [show (sameB n1 l1 n1 l1 && sameB n2 l2 n2 l2) = true by simp [sameB]] at h
  exact h

theorem wsame_eq (n : Bool) (A1 A2 : Option Addr) (l : List Nat) (c1 c2 : Nat) (w : World) (hs1 : Sl w A1 l c1) (hs2 : Sl w A2 l c2) :
    Calls Tryz.prog 27 #[.agg #[.bool n, .slice A1 l.length c1], .agg #[.bool n, .slice A2 l.length c2]] w fun e w' => e = .returned (.bool true) ∧ Below w.heap.size w w' := by
  have h := same_any n n A1 A2 l l c1 c2 w hs1 hs2
  rw [show sameB n l n l = true by simp [sameB]] at h
  exact h

theorem part_end {r : (Bool × List Nat) × (Bool × List Nat)} {w w3 : World} {g c c' : Nat} {A A' : Option Addr} {n1 n2 : Bool} {A1 A2 : Option Addr} {m1 c1 m2 c2 : Nat} (hs : Sl w3 A r.1.2 c) (hs' : Sl w3 A' r.2.2 c') (q : Cf w3 g n1 A1 m1 c1 n2 A2 m2 c2) (hb : Below w.heap.size w w3) (hg : w.heap.size ≤ g) (x y z u : Value) (o : Obj) :
    FRes1 r w (.returned (.agg #[.bool r.1.1, .slice A r.1.2.length c, .bool r.2.1, .slice A' r.2.2.length c'])) (((((w3.setCell ⟨g, 0, none⟩ x).setCell ⟨g, 1, none⟩ y).setCell ⟨g, 2, none⟩ z).setCell ⟨g, 3, none⟩ u).alloc o) :=
  ⟨A, c, A', c', rfl, (hs.setF q _ _ _ _).alloc _, (hs'.setF q _ _ _ _).alloc _, (below_setF hb hg _ _ _ _).alloc (by have := hb.size; simp [World.setCell]; omega) _⟩

set_option maxRecDepth 100000 in
set_option maxHeartbeats 2000000 in
theorem part_any (n m : Int) (hn1 : -9223372036854775808 ≤ n) (hn2 : n ≤ 9223372036854775807) (hm1 : -9223372036854775808 ≤ m) (hm2 : m ≤ 9223372036854775807) (w : World) :
    Calls Tryz.prog 33 #[.int .i64 n, .int .i64 m] w (FRes1 (ofS n m).1 w) := by
  have hF : Hid (∀ W, Calls Tryz.prog 86 #[.int .i64 n, .int .i64 m] W (FRes (ofS n m) W)) := fun W => rof_any n m hn1 hn2 hm1 hm2 W
  have B : Hid (Below w.heap.size w w) := Below.refl _ _
  generalize ofS n m = R at *
  obtain ⟨⟨⟨nx, lx⟩, ⟨ny, ly⟩⟩, kk⟩ := R
  go_enter Tryz.func33, Tryz.ntmps33
  go_wp2_with fail
  refine (hF.out _).mono ?_
  rintro e w1 ⟨A1, c1, A2, c2, rfl, hs1, hs2, hb⟩
  have Fo : Hid (Ff w1 w.heap.size) := Ff.keep (Ff.fresh (by simp) _ _) (Cf.fresh (by simp) _ _ _ _ _ _ _ _ _) hb
  have Ko : Hid (Cf w1 w.heap.size false none 0 0 false none 0 0) := Cf.keep (Cf.fresh (by simp) _ _ _ _ _ _ _ _ _) hb
  replace B := kB1 B hb
  clear hb
  (try dsimp only at hs1 hs2)
  (try dsimp only)
  have Sx : Hid (Sl w1 A1 lx c1) := hs1
  clear hs1
  have Sy : Hid (Sl w1 A2 ly c2) := hs2
  clear hs2
  obtain ⟨qo0, qo1, qo2, qo3⟩ := Ko.out
  obtain ⟨fo0, fo1, fo2, fo3⟩ := Fo.out
  have hzo := lF Ko
  have hkof := hzo
  go_wp2
  exact bodyPost_ret (v := .agg #[.bool nx, .slice A1 lx.length c1, .bool ny, .slice A2 ly.length c2]) (by simp [results, Tryz.results33, go_sem, qo0, qo1, qo2, qo3, hzo]) rfl (part_end (r := ((nx, lx), (ny, ly))) Sx.out Sy.out Ko.out B.out (by omega) _ _ _ _ _)

set_option maxRecDepth 100000 in
set_option maxHeartbeats 2000000 in
theorem lsame_true (n1 n2 : Bool) (A1 A2 : Option Addr) (l1 l2 : List Nat) (c1 c2 : Nat) (n m : Int) (hn1 : -9223372036854775808 ≤ n) (hn2 : n ≤ 9223372036854775807) (hm1 : -9223372036854775808 ≤ m) (hm2 : m ≤ 9223372036854775807) (h : (ofS n m).1 = ((n1, l1), (n2, l2))) (w : World) (hs1 : Sl w A1 l1 c1) (hs2 : Sl w A2 l2 c2) :
    Calls Tryz.prog 43 #[.agg #[.bool n1, .slice A1 l1.length c1, .bool n2, .slice A2 l2.length c2], .int .i64 0, .int .i64 n, .int .i64 m] w fun e w' => e = .returned (.bool true) ∧ Below w.heap.size w w' := by
  have hP : Hid (∀ W, Calls Tryz.prog 33 #[.int .i64 n, .int .i64 m] W (FRes1 ((n1, l1), (n2, l2)) W)) := fun W => by rw [← h]; exact part_any n m hn1 hn2 hm1 hm2 W
  have S1 := Lib.hid hs1
  have S2 := Lib.hid hs2
  have B : Hid (Below w.heap.size w w) := Below.refl _ _
  clear hs1 hs2 h hn1 hn2 hm1 hm2
  go_enter Tryz.func43, Tryz.ntmps43
  go_wp2_with fail
  replace S1 : Hid (Sl (w.alloc (.cells #[.bool n1, .slice A1 l1.length c1, .bool n2, .slice A2 l2.length c2] 26)) A1 l1 c1) := (S1.out.alloc _)
  replace S2 : Hid (Sl (w.alloc (.cells #[.bool n1, .slice A1 l1.length c1, .bool n2, .slice A2 l2.length c2] 26)) A2 l2 c2) := (S2.out.alloc _)
  have Kf : Hid (Cf (w.alloc (.cells #[.bool n1, .slice A1 l1.length c1, .bool n2, .slice A2 l2.length c2] 26)) w.heap.size n1 A1 l1.length c1 n2 A2 l2.length c2) := (Cf.fresh (by simp) _ _ _ _ _ _ _ _ _)
  replace B : Hid (Below w.heap.size w (w.alloc (.cells #[.bool n1, .slice A1 l1.length c1, .bool n2, .slice A2 l2.length c2] 26))) := (below_mono B.out (blw1 _ _))
  generalize w.alloc (.cells #[.bool n1, .slice A1 l1.length c1, .bool n2, .slice A2 l2.length c2] 26) = wz at *
  have KfY : Hid (Cf wz.drew w.heap.size n1 A1 l1.length c1 n2 A2 l2.length c2) := Kf.out
  have S1Y : Hid (Sl wz.drew A1 l1 c1) := Sl.drew S1.out
  have S2Y : Hid (Sl wz.drew A2 l2 c2) := Sl.drew S2.out
  have BY : Hid (Below w.heap.size w wz.drew) := Below.drew B.out
  obtain ⟨of0, of1, of2, of3⟩ := Kf.out
  go_region_with (first
    | (go_at_call 33; refine (hP.out _).mono ?_; rintro e x1 ⟨A3, c3, A4, c4, rfl, hs3, hs4, hb⟩; (try dsimp only at hs3); (try dsimp only at hs4); (try dsimp only); have S3x1 : Hid (Sl x1 A3 l1 c3) := hs3; have S4x1 : Hid (Sl x1 A4 l2 c4) := hs4; have Kfx1 := Lib.hid (KfY.out.keep hb); have S1x1 := Lib.hid (S1Y.out.below hb); have S2x1 := Lib.hid (S2Y.out.below hb); have Bx1 := Lib.hid (below_mono BY.out hb); obtain ⟨of0x1, of1x1, of2x1, of3x1⟩ := Kfx1.out; clear hb hs3 hs4)
    | (go_at_call 16; refine (fsame_eq n1 n2 _ _ _ _ l1 l2 _ _ _ _ _ S1x1.out S2x1.out S3x1.out S4x1.out).mono ?_; rintro e x2 ⟨rfl, hb⟩; (try dsimp only); have Kfx2 := Lib.hid (Kfx1.out.keep hb); have S1x2 := Lib.hid (S1x1.out.below hb); have S2x2 := Lib.hid (S2x1.out.below hb); have S3x2 := Lib.hid (S3x1.out.below hb); have S4x2 := Lib.hid (S4x1.out.below hb); have Bx2 := Lib.hid (below_mono Bx1.out hb); clear hb))
  all_goals
    have Kf := Kfx2
    have S1 := S1x2
    have S2 := S2x2
    have S3 := S3x2
    have S4 := S4x2
    have B := Bx2
    go_wp2
    go_ret
    exact ⟨rfl, B.out⟩

set_option maxRecDepth 100000 in
set_option maxHeartbeats 2000000 in
theorem whole_true (nw : Bool) (A1 : Option Addr) (l1 : List Nat) (c1 : Nat) (n : Int) (hn1 : -9223372036854775808 ≤ n) (hn2 : n ≤ 9223372036854775807) (h : wOf n = (nw, l1)) (w : World) (hs1 : Sl w A1 l1 c1) :
    Calls Tryz.prog 72 #[.agg #[.bool nw, .slice A1 l1.length c1], .int .i64 0, .int .i64 n] w fun e w' => e = .returned (.bool true) ∧ Below w.heap.size w w' := by
  have hP : Hid (∀ W, Calls Tryz.prog 30 #[.int .i64 n] W (WRes1 (nw, l1) W)) := fun W => by rw [← h]; exact rfrom_any n W hn1 hn2
  have S1 := Lib.hid hs1
  have B : Hid (Below w.heap.size w w) := Below.refl _ _
  clear hs1 h hn1 hn2
  go_enter Tryz.func72, Tryz.ntmps72
  go_wp2_with fail
  replace S1 : Hid (Sl (w.alloc (.cells #[.bool nw, .slice A1 l1.length c1] 24)) A1 l1 c1) := (S1.out.alloc _)
  have Kf : Hid (Cw (w.alloc (.cells #[.bool nw, .slice A1 l1.length c1] 24)) w.heap.size nw A1 l1.length c1) := (Cw.fresh (by simp) _ _ _ _ _)
  replace B : Hid (Below w.heap.size w (w.alloc (.cells #[.bool nw, .slice A1 l1.length c1] 24))) := (below_mono B.out (blw1 _ _))
  generalize w.alloc (.cells #[.bool nw, .slice A1 l1.length c1] 24) = wz at *
  have KfY : Hid (Cw wz.drew w.heap.size nw A1 l1.length c1) := Kf.out
  have S1Y : Hid (Sl wz.drew A1 l1 c1) := Sl.drew S1.out
  have BY : Hid (Below w.heap.size w wz.drew) := Below.drew B.out
  obtain ⟨of0, of1⟩ := Kf.out
  go_region_with (first
    | (go_at_call 30; refine (hP.out _).mono ?_; rintro e x1 ⟨A3, c3, rfl, hs3, hb⟩; (try dsimp only at hs3); (try dsimp only); have S3x1 : Hid (Sl x1 A3 l1 c3) := hs3; have Kfx1 := Lib.hid (KfY.out.keep hb); have S1x1 := Lib.hid (S1Y.out.below hb); have Bx1 := Lib.hid (below_mono BY.out hb); obtain ⟨of0x1, of1x1⟩ := Kfx1.out; clear hb hs3)
    | (go_at_call 27; refine (wsame_eq nw _ _ l1 _ _ _ S1x1.out S3x1.out).mono ?_; rintro e x2 ⟨rfl, hb⟩; (try dsimp only); have Kfx2 := Lib.hid (Kfx1.out.keep hb); have S1x2 := Lib.hid (S1x1.out.below hb); have S3x2 := Lib.hid (S3x1.out.below hb); have Bx2 := Lib.hid (below_mono Bx1.out hb); clear hb))
  all_goals
    have Kf := Kfx2
    have S1 := S1x2
    have S3 := S3x2
    have B := Bx2
    go_wp2
    go_ret
    exact ⟨rfl, B.out⟩

/-- How many limbs the larger number of a fraction has. -/
def fewS (l1 l2 : List Nat) : Int := max (l1.length : Int) (l2.length : Int)

set_option maxRecDepth 100000 in
set_option maxHeartbeats 2000000 in
theorem few_any (n1 n2 : Bool) (A1 A2 : Option Addr) (l1 l2 : List Nat) (c1 c2 : Nat) (w : World) :
    Calls Tryz.prog 19 #[.agg #[.bool n1, .slice A1 l1.length c1, .bool n2, .slice A2 l2.length c2]] w fun e w' => e = .returned (.int .i64 (fewS l1 l2)) ∧ Below w.heap.size w w' := by
  go_enter Tryz.func19, Tryz.ntmps19
  go_wp2
  go_ret
  exact ⟨rfl, blw1 _ _⟩

end Go.Proofs.YtmelbahbjdogdaaGreatDoor
/- The numbers of the chapter's examples (alive of the laws of fractions). No program in sight. -/
namespace Go.Proofs.YtmelbahbjdogdaaGreatDoor
open Go.Lib
theorem fit_small {a : Int} (h : a.natAbs ≤ 10 ^ 10) : fitZ a := fit_ten h (by omega)

/-- A fraction of small numbers without common divisors. -/
theorem low {a b : Int} (h : 0 < b) (ha : a.natAbs ≤ 10 ^ 10) (hb : b.natAbs ≤ 10 ^ 10) (g : Int.gcd a b = 1) : VF (wOf a).1 (wOf a).2 (wOf b).1 (wOf b).2 a b :=
  ⟨vz_wOf (fit_small ha), vz_wOf (fit_small hb), h, g⟩

theorem low_red {a b : Int} (h : 0 < b) (ha : a.natAbs ≤ 10 ^ 10) (hb : b.natAbs ≤ 10 ^ 10) (g : Int.gcd a b = 1) : redZ a b = (wOf a, wOf b) := (low h ha hb g).red

theorem of_low {x y a b : Int} (hy : y ≠ 0) (he : x * b = a * y) (h : 0 < b) (ha : a.natAbs ≤ 10 ^ 10) (hb : b.natAbs ≤ 10 ^ 10) (g : Int.gcd a b = 1) : ofS x y = ((wOf a, wOf b), 0) := by
  unfold ofS
  rw [if_neg hy, red_eq (u := a) (v := b) hy (by omega) he, low_red h ha hb g]

theorem add_low : bothF (wOf 1).1 (wOf 1).2 (wOf 2).1 (wOf 2).2 (wOf 1).1 (wOf 1).2 (wOf 3).1 (wOf 3).2 addV = ((wOf 5, wOf 6), 0) := by
  rw [both_good (low (a := 1) (b := 2) (by omega) (by decide) (by decide) (by decide)) (low (a := 1) (b := 3) (by omega) (by decide) (by decide) (by decide))]
  unfold addV outF
  have f : ∀ a : Int, a.natAbs ≤ 10 ^ 10 → fitB a = true := fun a h => fitB_iff.2 (fit_small h)
  rw [f _ (by decide), f _ (by decide), f _ (by decide), f _ (by decide)]
  exact Prod.ext (low_red (a := 5) (b := 6) (by omega) (by decide) (by decide) (by decide)) rfl

theorem floor_low {a b q : Int} (v : VF (wOf a).1 (wOf a).2 (wOf b).1 (wOf b).2 a b) (hq : a.fdiv b = q) : floorF (wOf a).1 (wOf a).2 (wOf b).1 (wOf b).2 = (wOf q, 0) := by
  unfold floorF
  rw [v.good, if_neg (by simp), v.num.zv_eq, v.den.zv_eq, hq]

theorem round_low {a b q : Int} (v : VF (wOf a).1 (wOf a).2 (wOf b).1 (wOf b).2 a b) (hq : roundZ a b = q) : froundS (wOf a).1 (wOf a).2 (wOf b).1 (wOf b).2 = (wOf q, 0) := by
  unfold froundS
  rw [v.good, if_neg (by simp), v.num.zv_eq, v.den.zv_eq, hq]

theorem dec_low {a b u v q : Int} {k : Nat} (V : VF (wOf a).1 (wOf a).2 (wOf b).1 (wOf b).2 a b) (hk : k ≤ 50) (he : a * 10 ^ k * v = u * b) (h : 0 < v) (hu : u.natAbs ≤ 10 ^ 10) (hv : v.natAbs ≤ 10 ^ 10) (g : Int.gcd u v = 1) (hq : roundZ u v = q) :
    fdecS (wOf a).1 (wOf a).2 (wOf b).1 (wOf b).2 (k : Int) = (decTxt q k, 0) := by
  unfold fdecS
  rw [V.good, if_neg (by simp), if_neg (by omega), V.num.zv_eq, V.den.zv_eq, Int.toNat_natCast]
  have hr : redZ (a * 10 ^ k) b = (wOf u, wOf v) := by rw [red_eq (u := u) (v := v) (by have := V.pos; omega) (by omega) he, low_red h hu hv g]
  have L := low h hu hv g
  unfold rndS
  rw [hr]
  show (decTxt (roundZ (zv (wOf u).1 (wOf u).2) (zv (wOf v).1 (wOf v).2)) k, (0 : Int)) = _
  rw [L.num.zv_eq, L.den.zv_eq, hq]

theorem al_of : ofS 6 (-4) = ((wOf (-3), wOf 2), 0) := of_low (by omega) (by omega) (by omega) (by decide) (by decide) (by decide)

theorem al_d : fdecS (wOf 2).1 (wOf 2).2 (wOf 3).1 (wOf 3).2 3 = ([48, 46, 54, 54, 55], 0) := by
  have := dec_low (u := 2000) (v := 3) (q := 667) (k := 3) (low (a := 2) (b := 3) (by omega) (by decide) (by decide) (by decide)) (by omega) (by decide) (by omega) (by decide) (by decide) (by decide) (by decide)
  rw [show ((3 : Nat) : Int) = 3 from rfl] at this
  rw [this]
  decide

theorem al_e : fdecS (wOf (-1)).1 (wOf (-1)).2 (wOf 1000).1 (wOf 1000).2 2 = ([48, 46, 48, 48], 0) := by
  have := dec_low (u := -1) (v := 10) (q := 0) (k := 2) (low (a := -1) (b := 1000) (by omega) (by decide) (by decide) (by decide)) (by omega) (by decide) (by omega) (by decide) (by decide) (by decide) (by decide)
  rw [show ((2 : Nat) : Int) = 2 from rfl] at this
  rw [this]
  decide

end Go.Proofs.YtmelbahbjdogdaaGreatDoor

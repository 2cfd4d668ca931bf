/- Walks: frac.Neg; the reference's Neg, Cmp, Twin. -/
import Derived.Test.YtmelbahbjdogdaaGreatDoorF10
import Derived.Test.YtmelbahbjdogdaaGreatDoorW1
import Derived.Test.YtmelbahbjdogdaaGreatDoorMem
import Derived.Test.YtmelbahbjdogdaaGreatDoorInv
import Derived.Deep.RegionHeld3
namespace Go.Proofs.YtmelbahbjdogdaaGreatDoor
open Go.RowKit
attribute [local go_sem ↓] Go.wp_at_zero Go.wp_at_succ
theorem cell_far {w : World} {g h i j : Nat} (hne : h ≠ g) (x : Value) : (w.setCell ⟨g, j, none⟩ x).cell? ⟨h, i, none⟩ = w.cell? ⟨h, i, none⟩ :=
  World.cell?_setCell_other _ _ _ _ (by intro e; exact hne (congrArg Addr.block e).symm)

theorem far1 {w : World} {g h j : Nat} {v0 v1 v2 v3 : Value} (hne : h ≠ g) (x : Value) (k : w.cell? ⟨h, 0, none⟩ = some v0 ∧ w.cell? ⟨h, 1, none⟩ = some v1 ∧ w.cell? ⟨h, 2, none⟩ = some v2 ∧ w.cell? ⟨h, 3, none⟩ = some v3) :
    (w.setCell ⟨g, j, none⟩ x).cell? ⟨h, 0, none⟩ = some v0 ∧ (w.setCell ⟨g, j, none⟩ x).cell? ⟨h, 1, none⟩ = some v1 ∧ (w.setCell ⟨g, j, none⟩ x).cell? ⟨h, 2, none⟩ = some v2 ∧ (w.setCell ⟨g, j, none⟩ x).cell? ⟨h, 3, none⟩ = some v3 :=
  ⟨(cell_far hne x).trans k.1, (cell_far hne x).trans k.2.1, (cell_far hne x).trans k.2.2.1, (cell_far hne x).trans k.2.2.2⟩

set_option maxRecDepth 100000 in
set_option maxHeartbeats 2000000 in
theorem get_any (n1 n2 : Bool) (A1 A2 : Option Addr) (l1 l2 : List Nat) (c1 c2 : Nat) (x : Int) (h1 : VZ n1 l1 x) (w : World) (hs1 : Sl w A1 l1 c1) (hs2 : Sl w A2 l2 c2) :
    Calls Tryz.prog 96 #[.agg #[.bool n1, .slice A1 l1.length c1, .bool n2, .slice A2 l2.length c2]] w (FRes1 (wOf (-x), (n2, l2)) w) := by
  have S1 := Lib.hid hs1
  have S2 := Lib.hid hs2
  have B : Hid (Below w.heap.size w w) := Below.refl _ _
  obtain ⟨nn, ln, hn⟩ : ∃ n l, wOf (-x) = (n, l) := ⟨_, _, rfl⟩
  have e1 : Hid (negS n1 l1 = ((nn, ln), 0)) := by rw [← hn]; exact negS_z h1
  rw [hn]
  clear hs1 hs2 h1 hn
  go_enter Tryz.func96, Tryz.ntmps96
  go_wp2_with fail
  have KaX : Hid (Cf (((w.alloc (.cells #[.bool n1, .slice A1 l1.length c1, .bool n2, .slice A2 l2.length c2] 113)).alloc (.cells #[.bool false, .slice none 0 0, .bool false, .slice none 0 0] 26)).drew) w.heap.size n1 A1 l1.length c1 n2 A2 l2.length c2) := Cf.drew (Cf.keep (Cf.fresh (by simp) _ _ _ _ _ _ _ _ _) (blw1 _ _))
  have KoX : Hid (Cf (((w.alloc (.cells #[.bool n1, .slice A1 l1.length c1, .bool n2, .slice A2 l2.length c2] 113)).alloc (.cells #[.bool false, .slice none 0 0, .bool false, .slice none 0 0] 26)).drew) (w.heap.size + 1) false none 0 0 false none 0 0) := Cf.drew (Cf.fresh (by simp) _ _ _ _ _ _ _ _ _)
  have FoX : Hid (Ff (((w.alloc (.cells #[.bool n1, .slice A1 l1.length c1, .bool n2, .slice A2 l2.length c2] 113)).alloc (.cells #[.bool false, .slice none 0 0, .bool false, .slice none 0 0] 26)).drew) (w.heap.size + 1)) := Ff.drew (Ff.fresh (by simp) _ _)
  have S1X : Hid (Sl (((w.alloc (.cells #[.bool n1, .slice A1 l1.length c1, .bool n2, .slice A2 l2.length c2] 113)).alloc (.cells #[.bool false, .slice none 0 0, .bool false, .slice none 0 0] 26)).drew) A1 l1 c1) := Sl.drew ((S1.out.alloc _).alloc _)
  have S2X : Hid (Sl (((w.alloc (.cells #[.bool n1, .slice A1 l1.length c1, .bool n2, .slice A2 l2.length c2] 113)).alloc (.cells #[.bool false, .slice none 0 0, .bool false, .slice none 0 0] 26)).drew) A2 l2 c2) := Sl.drew ((S2.out.alloc _).alloc _)
  have BX : Hid (Below w.heap.size w (((w.alloc (.cells #[.bool n1, .slice A1 l1.length c1, .bool n2, .slice A2 l2.length c2] 113)).alloc (.cells #[.bool false, .slice none 0 0, .bool false, .slice none 0 0] 26)).drew)) := Below.drew (below_mono (below_mono B.out (blw1 _ _)) (blw1 _ _))
  clear S1 S2 B
  have J0 : Hid ((((w.alloc (.cells #[.bool n1, .slice A1 l1.length c1, .bool n2, .slice A2 l2.length c2] 113)).alloc (.cells #[.bool false, .slice none 0 0, .bool false, .slice none 0 0] 26)).drew).cell? ⟨w.heap.size, 0, none⟩ = some (.bool n1) ∧ (((w.alloc (.cells #[.bool n1, .slice A1 l1.length c1, .bool n2, .slice A2 l2.length c2] 113)).alloc (.cells #[.bool false, .slice none 0 0, .bool false, .slice none 0 0] 26)).drew).cell? ⟨w.heap.size, 1, none⟩ = some (.slice A1 l1.length c1) ∧ (((w.alloc (.cells #[.bool n1, .slice A1 l1.length c1, .bool n2, .slice A2 l2.length c2] 113)).alloc (.cells #[.bool false, .slice none 0 0, .bool false, .slice none 0 0] 26)).drew).cell? ⟨w.heap.size, 2, none⟩ = some (.bool n2) ∧ (((w.alloc (.cells #[.bool n1, .slice A1 l1.length c1, .bool n2, .slice A2 l2.length c2] 113)).alloc (.cells #[.bool false, .slice none 0 0, .bool false, .slice none 0 0] 26)).drew).cell? ⟨w.heap.size, 3, none⟩ = some (.slice A2 l2.length c2)) := KaX.out
  go_region_held3 (fun w' => w'.cell? ⟨w.heap.size, 0, none⟩ = some (.bool n1) ∧ w'.cell? ⟨w.heap.size, 1, none⟩ = some (.slice A1 l1.length c1) ∧ w'.cell? ⟨w.heap.size, 2, none⟩ = some (.bool n2) ∧ w'.cell? ⟨w.heap.size, 3, none⟩ = some (.slice A2 l2.length c2))
    (first | with_reducible exact J2.out | with_reducible exact far1 (by omega) _ J2.out | with_reducible exact far1 (by omega) _ (far1 (by omega) _ (far1 (by omega) _ (far1 (by omega) _ J2.out))) | with_reducible exact far1 (by omega) _ (far1 (by omega) _ (far1 (by omega) _ (far1 (by omega) _ (far1 (by omega) _ J2.out)))) | with_reducible exact J1.out | with_reducible exact J0.out)
    (first
      | (go_at_call 56; (with_reducible refine (neg_any n1 A1 l1 c1 _ S1X.out).mono ?_); rw [e1.out]; rintro e v1 ⟨A3, c3, rfl, hs3, hb⟩; (try dsimp only at hs3); (try dsimp only); have S3v1 : Hid (Sl v1 A3 ln c3) := hs3; have S2v1 := Lib.hid (S2X.out.below hb); have Fov1 := Lib.hid (Ff.keep FoX.out KoX.out hb); have Kov1 := Lib.hid (KoX.out.keep hb); have Kav1 := Lib.hid (KaX.out.keep hb); have J1 : Hid (v1.cell? ⟨w.heap.size, 0, none⟩ = some (.bool n1) ∧ v1.cell? ⟨w.heap.size, 1, none⟩ = some (.slice A1 l1.length c1) ∧ v1.cell? ⟨w.heap.size, 2, none⟩ = some (.bool n2) ∧ v1.cell? ⟨w.heap.size, 3, none⟩ = some (.slice A2 l2.length c2)) := Kav1.out; have Bv1 := Lib.hid (below_mono BX.out hb); clear hb hs3)
      | (go_at_call 53; (with_reducible refine (must_ok nn A3 ln.length c3 _).mono ?_); rintro e v2 ⟨rfl, hb⟩; have S3v2 := Lib.hid (S3v1.out.below hb); have S2v2 := Lib.hid (S2v1.out.below hb); have Fov2 := Lib.hid (Ff.keep Fov1.out Kov1.out hb); have Kov2 := Lib.hid (Kov1.out.keep hb); have Kav2 := Lib.hid (Kav1.out.keep hb); have J2 : Hid (v2.cell? ⟨w.heap.size, 0, none⟩ = some (.bool n1) ∧ v2.cell? ⟨w.heap.size, 1, none⟩ = some (.slice A1 l1.length c1) ∧ v2.cell? ⟨w.heap.size, 2, none⟩ = some (.bool n2) ∧ v2.cell? ⟨w.heap.size, 3, none⟩ = some (.slice A2 l2.length c2)) := Kav2.out; have Bv2 := Lib.hid (below_mono Bv1.out hb); obtain ⟨r0, r1, r2, r3⟩ := Kov2.out; obtain ⟨g0, g1, g2, g3⟩ := Fov2.out; clear hb))
  go_wp2
  exact bodyPost_ret (v := .agg #[.bool nn, .slice A3 ln.length c3, .bool n2, .slice A2 l2.length c2]) (by simp [results, Tryz.results96, go_sem, r0, r1, r2, r3]) rfl (fres1_store (r := ((nn, ln), (n2, l2))) S3v2.out S2v2.out Kov2.out Bv2.out (by omega) _ _ _ _)

set_option maxRecDepth 100000 in
set_option maxHeartbeats 2000000 in
theorem fneg_any (n1 n2 : Bool) (A1 A2 : Option Addr) (l1 l2 : List Nat) (c1 c2 : Nat) (w : World) (hs1 : Sl w A1 l1 c1) (hs2 : Sl w A2 l2 c2) :
    Calls Tryz.prog 45 #[.agg #[.bool n1, .slice A1 l1.length c1, .bool n2, .slice A2 l2.length c2]] w (FRes (negF n1 l1 n2 l2) w) := by
  have S1 := Lib.hid hs1
  have S2 := Lib.hid hs2
  have B : Hid (Below w.heap.size w w) := Below.refl _ _
  cases hb : badF n1 l1 n2 l2 with
  | true =>
    have hr : negF n1 l1 n2 l2 = (zF, 8) := by unfold negF; rw [hb]; rfl
    have e1 : Hid (chkF n1 l1 n2 l2 = 8) := by unfold chkF; rw [hb]; rfl
    rw [hr]
    clear hs1 hs2 hr hb
    go_enter_defers Tryz.func45, Tryz.ntmps45
    go_wp2_with fail
    refine (fcheck_any n1 n2 A1 A2 l1 l2 c1 c2 _ (((S1.out.alloc _).alloc _).alloc _) (((S2.out.alloc _).alloc _).alloc _)).mono ?_
    rw [e1.out]
    rintro e w1 ⟨rfl, hb⟩
    replace S1 : Hid (Sl w1 A1 l1 c1) := Sl.below (((S1.out.alloc _).alloc _).alloc _) hb
    replace S2 : Hid (Sl w1 A2 l2 c2) := Sl.below (((S2.out.alloc _).alloc _).alloc _) hb
    have Fo : Hid (Ff w1 (w.heap.size + 1)) := Ff.keep (Ff.keep (Ff.fresh (by simp) _ _) (Cf.fresh (by simp) _ _ _ _ _ _ _ _ _) (blw1 _ _)) (Cf.keep (Cf.fresh (by simp) _ _ _ _ _ _ _ _ _) (blw1 _ _)) hb
    have Ka : Hid (Cf w1 w.heap.size n1 A1 l1.length c1 n2 A2 l2.length c2) := Cf.keep (Cf.keep (Cf.keep (Cf.fresh (by simp) _ _ _ _ _ _ _ _ _) (blw1 _ _)) (blw1 _ _)) hb
    have Ko : Hid (Cf w1 (w.heap.size + 1) false none 0 0 false none 0 0) := Cf.keep (Cf.keep (Cf.fresh (by simp) _ _ _ _ _ _ _ _ _) (blw1 _ _)) hb
    have Ke : Hid (C1 w1 (w.heap.size + 1 + 1) (.int .i64 0)) := C1.keep (C1.fresh (by simp) _ _) hb
    replace B : Hid (Below w.heap.size w w1) := below_mono (below_mono (below_mono (below_mono B.out (blw1 _ _)) (blw1 _ _)) (blw1 _ _)) hb
    clear hb
    obtain ⟨qa0, qa1, qa2, qa3⟩ := Ka.out
    have hza : w.heap.size < w1.heap.size := lt_of_cell (a := ⟨w.heap.size, 0, none⟩) Ka.out.1
    have hzo : w.heap.size + 1 < w1.heap.size := lt_of_cell (a := ⟨w.heap.size + 1, 0, none⟩) Ko.out.1
    have hze : w.heap.size + 1 + 1 < w1.heap.size := lt_of_cell (a := ⟨w.heap.size + 1 + 1, 0, none⟩) Ke.out.1
    go_wp2_with fail
    refine (want_bad 8 (by decide) _).mono ?_
    rintro e w2 ⟨rfl, hb⟩
    clear qa0 qa1 qa2 qa3
    replace S1 : Hid (Sl w2 A1 l1 c1) := Sl.below S1.out hb
    replace S2 : Hid (Sl w2 A2 l2 c2) := Sl.below S2.out hb
    replace Fo : Hid (Ff w2 (w.heap.size + 1)) := Ff.keep Fo.out Ko.out hb
    replace Ka : Hid (Cf w2 w.heap.size n1 A1 l1.length c1 n2 A2 l2.length c2) := Cf.keep Ka.out hb
    replace Ko : Hid (Cf w2 (w.heap.size + 1) false none 0 0 false none 0 0) := Cf.keep Ko.out hb
    replace Ke : Hid (C1 w2 (w.heap.size + 1 + 1) (.int .i64 0)) := C1.keep Ke.out hb
    replace B : Hid (Below w.heap.size w w2) := below_mono B.out hb
    clear hb
    go_wp2_with fail
    refine leaves_cons (f := 46) (args := #[.pointer (some ⟨w.heap.size + 1 + 1, 0, none⟩)]) (by simp) (by simp [go_sem]) ?_
    refine (catch_fall (w.heap.size + 1 + 1) 0 8 [] _ Ke.out).mono ?_
    rintro e u' w'' ⟨rfl, rfl, ob, rfl⟩
    obtain ⟨qo0, qo1, qo2, qo3⟩ := Ko.out
    obtain ⟨fo0, fo1, fo2, fo3⟩ := Fo.out
    have hze2 : w.heap.size + 1 < w2.heap.size := lt_of_cell (a := ⟨w.heap.size + 1, 0, none⟩) qo0
    have hze3 : w.heap.size + 1 + 1 < w2.heap.size := lt_of_cell (a := ⟨w.heap.size + 1 + 1, 0, none⟩) Ke.out.1
    simp [Leaves, settle, results, Tryz.results45, go_sem, qo0, qo1, qo2, qo3, hze2, hze3, Ke.out.1]
    exact fres_fall 8 B.out (by omega) _ _
  | false =>
    have e1 : Hid (chkF n1 l1 n2 l2 = 0) := by unfold chkF; rw [hb]; rfl
    have va := vf_of hs1.lim hs2.lim hb
    rw [negF_good va]
    obtain ⟨h1, h2, hp, _⟩ := va
    generalize zv n1 l1 = x at *
    generalize zv n2 l2 = y at *
    obtain ⟨nn, ln, hn⟩ : ∃ n l, wOf (-x) = (n, l) := ⟨_, _, rfl⟩
    have e2 : Hid (absS n2 l2 = ((n2, l2), 0)) := by rw [Hid, absS_z h2, h2.1, show ((y.natAbs : Nat) : Int) = y by omega]
    have HG : Hid (∀ W A c, Sl W A1 l1 c1 → Sl W A l2 c → Calls Tryz.prog 96 #[.agg #[.bool n1, .slice A1 l1.length c1, .bool n2, .slice A l2.length c]] W (FRes1 ((nn, ln), (n2, l2)) W)) := fun W A c a b => by rw [← hn]; exact get_any n1 n2 A1 A l1 l2 c1 c x h1 W a b
    rw [hn]
    clear hs1 hs2 hb h1 h2 hp hn
    go_enter_defers Tryz.func45, Tryz.ntmps45
    go_wp2_with fail
    refine (fcheck_any n1 n2 A1 A2 l1 l2 c1 c2 _ (((S1.out.alloc _).alloc _).alloc _) (((S2.out.alloc _).alloc _).alloc _)).mono ?_
    rw [e1.out]
    rintro e w1 ⟨rfl, hb⟩
    replace S1 : Hid (Sl w1 A1 l1 c1) := Sl.below (((S1.out.alloc _).alloc _).alloc _) hb
    replace S2 : Hid (Sl w1 A2 l2 c2) := Sl.below (((S2.out.alloc _).alloc _).alloc _) hb
    have Fo : Hid (Ff w1 (w.heap.size + 1)) := Ff.keep (Ff.keep (Ff.fresh (by simp) _ _) (Cf.fresh (by simp) _ _ _ _ _ _ _ _ _) (blw1 _ _)) (Cf.keep (Cf.fresh (by simp) _ _ _ _ _ _ _ _ _) (blw1 _ _)) hb
    have Ka : Hid (Cf w1 w.heap.size n1 A1 l1.length c1 n2 A2 l2.length c2) := Cf.keep (Cf.keep (Cf.keep (Cf.fresh (by simp) _ _ _ _ _ _ _ _ _) (blw1 _ _)) (blw1 _ _)) hb
    have Ko : Hid (Cf w1 (w.heap.size + 1) false none 0 0 false none 0 0) := Cf.keep (Cf.keep (Cf.fresh (by simp) _ _ _ _ _ _ _ _ _) (blw1 _ _)) hb
    have Ke : Hid (C1 w1 (w.heap.size + 1 + 1) (.int .i64 0)) := C1.keep (C1.fresh (by simp) _ _) hb
    replace B : Hid (Below w.heap.size w w1) := below_mono (below_mono (below_mono (below_mono B.out (blw1 _ _)) (blw1 _ _)) (blw1 _ _)) hb
    clear hb
    obtain ⟨qa0, qa1, qa2, qa3⟩ := Ka.out
    have hza : w.heap.size < w1.heap.size := lt_of_cell (a := ⟨w.heap.size, 0, none⟩) Ka.out.1
    have hzo : w.heap.size + 1 < w1.heap.size := lt_of_cell (a := ⟨w.heap.size + 1, 0, none⟩) Ko.out.1
    have hze : w.heap.size + 1 + 1 < w1.heap.size := lt_of_cell (a := ⟨w.heap.size + 1 + 1, 0, none⟩) Ke.out.1
    go_wp2_with fail
    refine (want_ok _).mono ?_
    rintro e w2 ⟨rfl, hb⟩
    clear qa0 qa1 qa2 qa3
    replace S1 : Hid (Sl w2 A1 l1 c1) := Sl.below S1.out hb
    replace S2 : Hid (Sl w2 A2 l2 c2) := Sl.below S2.out hb
    replace Fo : Hid (Ff w2 (w.heap.size + 1)) := Ff.keep Fo.out Ko.out hb
    replace Ka : Hid (Cf w2 w.heap.size n1 A1 l1.length c1 n2 A2 l2.length c2) := Cf.keep Ka.out hb
    replace Ko : Hid (Cf w2 (w.heap.size + 1) false none 0 0 false none 0 0) := Cf.keep Ko.out hb
    replace Ke : Hid (C1 w2 (w.heap.size + 1 + 1) (.int .i64 0)) := C1.keep Ke.out hb
    replace B : Hid (Below w.heap.size w w2) := below_mono B.out hb
    clear hb
    obtain ⟨qa0, qa1, qa2, qa3⟩ := Ka.out
    replace hza : w.heap.size < w2.heap.size := lt_of_cell (a := ⟨w.heap.size, 0, none⟩) Ka.out.1
    replace hzo : w.heap.size + 1 < w2.heap.size := lt_of_cell (a := ⟨w.heap.size + 1, 0, none⟩) Ko.out.1
    replace hze : w.heap.size + 1 + 1 < w2.heap.size := lt_of_cell (a := ⟨w.heap.size + 1 + 1, 0, none⟩) Ke.out.1
    go_wp2_with fail
    clear qa0 qa1 qa2 qa3
    have KaX : Hid (Cf w2.drew w.heap.size n1 A1 l1.length c1 n2 A2 l2.length c2) := Cf.drew Ka.out
    have KoX : Hid (Cf w2.drew (w.heap.size + 1) false none 0 0 false none 0 0) := Cf.drew Ko.out
    have FoX : Hid (Ff w2.drew (w.heap.size + 1)) := Ff.drew Fo.out
    have KeX : Hid (C1 w2.drew (w.heap.size + 1 + 1) (.int .i64 0)) := Ke.out
    have S1X : Hid (Sl w2.drew A1 l1 c1) := Sl.drew S1.out
    have S2X : Hid (Sl w2.drew A2 l2 c2) := Sl.drew S2.out
    have BX : Hid (Below w.heap.size w w2.drew) := Below.drew B.out
    clear S1 S2 B Ka Ko Fo Ke hza hzo hze
    have J0 : Hid (w2.drew.cell? ⟨w.heap.size, 0, none⟩ = some (.bool n1) ∧ w2.drew.cell? ⟨w.heap.size, 1, none⟩ = some (.slice A1 l1.length c1) ∧ w2.drew.cell? ⟨w.heap.size, 2, none⟩ = some (.bool n2) ∧ w2.drew.cell? ⟨w.heap.size, 3, none⟩ = some (.slice A2 l2.length c2)) := KaX.out
    go_region_held3 (fun w' => w'.cell? ⟨w.heap.size, 0, none⟩ = some (.bool n1) ∧ w'.cell? ⟨w.heap.size, 1, none⟩ = some (.slice A1 l1.length c1) ∧ w'.cell? ⟨w.heap.size, 2, none⟩ = some (.bool n2) ∧ w'.cell? ⟨w.heap.size, 3, none⟩ = some (.slice A2 l2.length c2))
      (first | with_reducible exact J3.out | with_reducible exact far1 (by omega) _ J3.out | with_reducible exact far1 (by omega) _ (far1 (by omega) _ (far1 (by omega) _ (far1 (by omega) _ J3.out))) | with_reducible exact far1 (by omega) _ (far1 (by omega) _ (far1 (by omega) _ (far1 (by omega) _ (far1 (by omega) _ J3.out)))) | with_reducible exact J2.out | with_reducible exact J1.out | with_reducible exact J0.out)
      (first
        | (go_at_call 67; (with_reducible refine (abs_any n2 A2 l2 c2 _ S2X.out).mono ?_); rw [e2.out]; rintro e v1 ⟨A3, c3, rfl, hs3, hb⟩; (try dsimp only at hs3); (try dsimp only); have S3v1 : Hid (Sl v1 A3 l2 c3) := hs3; have Fov1 := Lib.hid (Ff.keep FoX.out KoX.out hb); have Kov1 := Lib.hid (KoX.out.keep hb); have Kev1 := Lib.hid (KeX.out.keep hb); have Kav1 := Lib.hid (KaX.out.keep hb); have Bv1 := Lib.hid (below_mono BX.out hb); have S1v1 := Lib.hid (S1X.out.below hb); have J1 : Hid (v1.cell? ⟨w.heap.size, 0, none⟩ = some (.bool n1) ∧ v1.cell? ⟨w.heap.size, 1, none⟩ = some (.slice A1 l1.length c1) ∧ v1.cell? ⟨w.heap.size, 2, none⟩ = some (.bool n2) ∧ v1.cell? ⟨w.heap.size, 3, none⟩ = some (.slice A2 l2.length c2)) := Kav1.out; clear hb hs3)
        | (go_at_call 53; (with_reducible refine (must_ok n2 A3 l2.length c3 _).mono ?_); rintro e v2 ⟨rfl, hb⟩; have Fov2 := Lib.hid (Ff.keep Fov1.out Kov1.out hb); have Kov2 := Lib.hid (Kov1.out.keep hb); have Kev2 := Lib.hid (Kev1.out.keep hb); have Kav2 := Lib.hid (Kav1.out.keep hb); have Bv2 := Lib.hid (below_mono Bv1.out hb); have S1v2 := Lib.hid (S1v1.out.below hb); have S3v2 := Lib.hid (S3v1.out.below hb); have J2 : Hid (v2.cell? ⟨w.heap.size, 0, none⟩ = some (.bool n1) ∧ v2.cell? ⟨w.heap.size, 1, none⟩ = some (.slice A1 l1.length c1) ∧ v2.cell? ⟨w.heap.size, 2, none⟩ = some (.bool n2) ∧ v2.cell? ⟨w.heap.size, 3, none⟩ = some (.slice A2 l2.length c2)) := Kav2.out; clear hb)
        | (go_at_call 96; (with_reducible refine (HG.out _ _ _ S1v2.out S3v2.out).mono ?_); rintro e v3 ⟨A5, c5, A6, c6, rfl, hs5, hs6, hb⟩; (try dsimp only at hs5 hs6); (try dsimp only); have S5v3 : Hid (Sl v3 A5 ln c5) := hs5; have S6v3 : Hid (Sl v3 A6 l2 c6) := hs6; have Fov3 := Lib.hid (Ff.keep Fov2.out Kov2.out hb); have Kov3 := Lib.hid (Kov2.out.keep hb); have Kev3 := Lib.hid (Kev2.out.keep hb); have Kav3 := Lib.hid (Kav2.out.keep hb); have Bv3 := Lib.hid (below_mono Bv2.out hb); have J3 : Hid (v3.cell? ⟨w.heap.size, 0, none⟩ = some (.bool n1) ∧ v3.cell? ⟨w.heap.size, 1, none⟩ = some (.slice A1 l1.length c1) ∧ v3.cell? ⟨w.heap.size, 2, none⟩ = some (.bool n2) ∧ v3.cell? ⟨w.heap.size, 3, none⟩ = some (.slice A2 l2.length c2)) := Kav3.out; obtain ⟨r0, r1, r2, r3⟩ := Kov3.out; obtain ⟨g0, g1, g2, g3⟩ := Fov3.out; obtain ⟨u0, u1⟩ := Kev3.out; clear hb hs5 hs6))
    go_wp2_with fail
    refine leaves_cons (f := 46) (args := #[.pointer (some ⟨w.heap.size + 1 + 1, 0, none⟩)]) (by simp) (by simp [go_sem]) ?_
    refine (catch_idle ⟨w.heap.size + 1 + 1, 0, none⟩ _).mono ?_
    rintro e u' w'' ⟨rfl, rfl, rfl⟩
    simp [Leaves, settle, results, Tryz.results45, go_sem, r0, r1, r2, r3, u0]
    exact fres_store (r := ((nn, ln), (n2, l2))) 0 S5v3.out S6v3.out Kov3.out Kev3.out (by omega) Bv3.out (by omega) (by omega) _ _ _ _ _

end Go.Proofs.YtmelbahbjdogdaaGreatDoor
/- Walk: frac.Cmp. -/
namespace Go.Proofs.YtmelbahbjdogdaaGreatDoor
open Go.RowKit
attribute [local go_sem ↓] Go.wp_at_zero Go.wp_at_succ
end Go.Proofs.YtmelbahbjdogdaaGreatDoor
/- Memory: two fractions made at once and laid into boxes, in any order of the steps; the statement 'x, y := Twin(a), Twin(b)'. -/
namespace Go.Proofs.YtmelbahbjdogdaaGreatDoor
open Go.RowKit
attribute [local go_sem ↓] Go.wp_at_zero Go.wp_at_succ
/-- An operation of the region: what it writes, what it does, what it waits for. -/
def OpIsF (ops : Array Oper) (i : Nat) (d : Option Tmp) (op : Op) (waits : List Nat) : Prop :=
  ∃ o, ops[i]? = some o ∧ o.dst = d ∧ o.op = op ∧ o.guard = none ∧ ∀ k ∈ waits, ∃ e ∈ o.after, e.on = k ∧ Region.binds .any e = true

theorem OpIsF.take {ops : Array Oper} {i : Nat} {d : Option Tmp} {op : Op} {ws : List Nat} (h : OpIsF ops i d op ws) {l : Array Bool} (hr : i < ops.size ∧ l.getD i true = false ∧ ∀ o, ops[i]? = some o → ∀ e ∈ o.after, Region.binds .any e = true → l.getD e.on false = true) :
    l.getD i true = false ∧ (∀ k ∈ ws, l.getD k false = true) ∧ ∃ ty pos after, ops[i]? = some ⟨d, op, ty, pos, after, none⟩ := by
  obtain ⟨⟨dst, op', ty, pos, after, guard⟩, hi, rfl, rfl, hg, hw⟩ := h
  simp only at hg
  subst hg
  refine ⟨hr.2.1, fun k hk => ?_, ty, pos, after, hi⟩
  obtain ⟨e, he, rfl, hb⟩ := hw k hk
  exact hr.2.2 _ hi e he hb

/-- A fraction as it lies: signs, slices. -/
structure FV where
  n1 : Bool
  A1 : Option Addr
  m1 : Nat
  c1 : Nat
  n2 : Bool
  A2 : Option Addr
  m2 : Nat
  c2 : Nat

@[reducible] def FV.val (v : FV) : Value := .agg #[.bool v.n1, .slice v.A1 v.m1 v.c1, .bool v.n2, .slice v.A2 v.m2 v.c2]

def CF (W : World) (g : Nat) (v : FV) : Prop := Cf W g v.n1 v.A1 v.m1 v.c1 v.n2 v.A2 v.m2 v.c2

@[reducible] def zf : FV := ⟨false, none, 0, 0, false, none, 0, 0⟩

@[reducible] def putF (W : World) (g : Nat) (v : FV) : World := (((W.setCell ⟨g, 0, none⟩ (.bool v.n1)).setCell ⟨g, 1, none⟩ (.slice v.A1 v.m1 v.c1)).setCell ⟨g, 2, none⟩ (.bool v.n2)).setCell ⟨g, 3, none⟩ (.slice v.A2 v.m2 v.c2)

theorem CF.keep {W W' : World} {g : Nat} {v : FV} (h : CF W g v) (hb : Below W.heap.size W W') : CF W' g v := Cf.keep h hb

theorem CF.put {W : World} {g h : Nat} {v u : FV} (k : CF W h u) (hne : h ≠ g) : CF (putF W g v) h u :=
  far1 hne _ (far1 hne _ (far1 hne _ (far1 hne _ k)))

theorem CF.new {W : World} {g : Nat} {v u : FV} (k : CF W g u) : CF (putF W g v) g v := by
  obtain ⟨h0, h1, h2, h3⟩ := k
  have ne : ∀ i j : Nat, i ≠ j → (⟨g, i, none⟩ : Addr) ≠ ⟨g, j, none⟩ := fun i j hij e => hij (by injection e)
  refine ⟨?_, ?_, ?_, ?_⟩
  · rw [World.cell?_setCell_other _ _ _ _ (ne 3 0 (by decide)), World.cell?_setCell_other _ _ _ _ (ne 2 0 (by decide)), World.cell?_setCell_other _ _ _ _ (ne 1 0 (by decide)), World.cell?_setCell_same _ _ _ h0]
  · rw [World.cell?_setCell_other _ _ _ _ (ne 3 1 (by decide)), World.cell?_setCell_other _ _ _ _ (ne 2 1 (by decide)), World.cell?_setCell_same _ _ _ ((World.cell?_setCell_other _ _ _ _ (ne 0 1 (by decide))).trans h1)]
  · rw [World.cell?_setCell_other _ _ _ _ (ne 3 2 (by decide)), World.cell?_setCell_same _ _ _ ((World.cell?_setCell_other _ _ _ _ (ne 1 2 (by decide))).trans ((World.cell?_setCell_other _ _ _ _ (ne 0 2 (by decide))).trans h2))]
  · exact World.cell?_setCell_same _ _ _ ((World.cell?_setCell_other _ _ _ _ (ne 2 3 (by decide))).trans ((World.cell?_setCell_other _ _ _ _ (ne 1 3 (by decide))).trans ((World.cell?_setCell_other _ _ _ _ (ne 0 3 (by decide))).trans h3)))

structure PF (w : World) (ga gb : Nat) (va vb : FV) (Ta Tb : World → FV → Prop) (d0 d1 d2 d3 d4 d5 d6 d7 : Bool) (u1 u2 u3 u4 u5 u6 : Value) (W : World) (o5 o6 : Option (Nat × FV)) (x1 x2 : Option FV) : Prop where
  b : Below w.heap.size w W
  ka : CF W ga va
  kb : CF W gb vb
  k5 : ∀ g v, o5 = some (g, v) → CF W g v ∧ Ff W g
  k6 : ∀ g v, o6 = some (g, v) → CF W g v ∧ Ff W g
  s1 : ∀ v, x1 = some v → Ta W v
  s2 : ∀ v, x2 = some v → Tb W v
  p0 : d0 = true → u1 = va.val
  p2 : d2 = true → u3 = vb.val
  p1 : d1 = false → x1 = none
  q1 : d1 = true → ∃ v, x1 = some v ∧ u2 = v.val
  p3 : d3 = false → x2 = none
  q3 : d3 = true → ∃ v, x2 = some v ∧ u4 = v.val
  p4 : d4 = false → o5 = none
  q4 : d4 = true → ∃ g v, u5 = .pointer (some ⟨g, 0, none⟩) ∧ o5 = some (g, v) ∧ gb < g ∧ (d6 = false → v = zf) ∧ (d6 = true → x1 = some v)
  p5 : d5 = false → o6 = none
  q5 : d5 = true → ∃ g v, u6 = .pointer (some ⟨g, 0, none⟩) ∧ o6 = some (g, v) ∧ gb < g ∧ (d7 = false → v = zf) ∧ (d7 = true → x2 = some v)
  n6 : d6 = true → d1 = true
  n7 : d7 = true → d3 = true
  m6 : d6 = true → d4 = true
  m7 : d7 = true → d5 = true
  pd : ∀ g v g' v', o5 = some (g, v) → o6 = some (g', v') → g' ≠ g

section
variable {w W W' : World} {ga gb : Nat} {va vb : FV} {Ta Tb : World → FV → Prop} {d0 d1 d2 d3 d4 d5 d6 d7 : Bool} {u1 u2 u3 u4 u5 u6 : Value} {o5 o6 : Option (Nat × FV)} {x1 x2 : Option FV}
theorem PF.done (h : PF w ga gb va vb Ta Tb d0 d1 d2 d3 true true true true u1 u2 u3 u4 u5 u6 W o5 o6 x1 x2) :
    ∃ g5 g6 v5 v6, u5 = .pointer (some ⟨g5, 0, none⟩) ∧ u6 = .pointer (some ⟨g6, 0, none⟩) ∧ gb < g5 ∧ gb < g6 ∧ CF W g5 v5 ∧ CF W g6 v6 ∧ Ta W v5 ∧ Tb W v6 := by
  obtain ⟨g5, v5, rfl, rfl, h5, _, k5⟩ := h.q4 rfl
  obtain ⟨g6, v6, rfl, rfl, h6, _, k6⟩ := h.q5 rfl
  exact ⟨g5, g6, v5, v6, rfl, rfl, h5, h6, (h.k5 _ _ rfl).1, (h.k6 _ _ rfl).1, h.s1 _ (k5 rfl), h.s2 _ (k6 rfl)⟩

end
section
variable {K : Act → World → Prop} {Q : Exit → Act → World → Prop} {a : Act} {W : World} {d : Option Tmp} {ty : TypeId} {pos : String} {after : Array Edge} {s s' g : Nat} {v : FV}
end
end Go.Proofs.YtmelbahbjdogdaaGreatDoor

/- Walks: frac.Neg; the reference's Neg, Cmp, Twin. -/
import Derived.Test.YthlfidbhldbedaaF10
import Derived.Test.YthlfidbhldbedaaTwin
import Derived.Test.YthlfidbhldbedaaInv
import Derived.Deep.RegionHeld3
namespace Go.Proofs.Ythlfidbhldbedaa
open Go.RowKit
attribute [local go_sem ↓] Go.wp_at_zero Go.wp_at_succ
theorem cell_far {w : World} {g h i j : Nat} (hne : h ≠ g) (x : Value) : (w.setCell ⟨g, j, none⟩ x).cell? ⟨h, i, none⟩ = w.cell? ⟨h, i, none⟩ :=
  World.cell?_setCell_other _ _ _ _ (by intro e; exact hne (congrArg Addr.block e).symm)

theorem far1 {w : World} {g h j : Nat} {v0 v1 v2 v3 : Value} (hne : h ≠ g) (x : Value) (k : w.cell? ⟨h, 0, none⟩ = some v0 ∧ w.cell? ⟨h, 1, none⟩ = some v1 ∧ w.cell? ⟨h, 2, none⟩ = some v2 ∧ w.cell? ⟨h, 3, none⟩ = some v3) :
    (w.setCell ⟨g, j, none⟩ x).cell? ⟨h, 0, none⟩ = some v0 ∧ (w.setCell ⟨g, j, none⟩ x).cell? ⟨h, 1, none⟩ = some v1 ∧ (w.setCell ⟨g, j, none⟩ x).cell? ⟨h, 2, none⟩ = some v2 ∧ (w.setCell ⟨g, j, none⟩ x).cell? ⟨h, 3, none⟩ = some v3 :=
  ⟨(cell_far hne x).trans k.1, (cell_far hne x).trans k.2.1, (cell_far hne x).trans k.2.2.1, (cell_far hne x).trans k.2.2.2⟩

set_option maxRecDepth 100000 in
set_option maxHeartbeats 2000000 in
theorem get_any (n1 n2 : Bool) (A1 A2 : Option Addr) (l1 l2 : List Nat) (c1 c2 : Nat) (x : Int) (h1 : VZ n1 l1 x) (w : World) (hs1 : Sl w A1 l1 c1) (hs2 : Sl w A2 l2 c2) :
    Calls Try.prog 54 #[.agg #[.bool n1, .slice A1 l1.length c1, .bool n2, .slice A2 l2.length c2]] w (FRes1 (wOf (-x), (n2, l2)) w) := by
  have S1 := Lib.hid hs1
  have S2 := Lib.hid hs2
  have B : Hid (Below w.heap.size w w) := Below.refl _ _
  obtain ⟨nn, ln, hn⟩ : ∃ n l, wOf (-x) = (n, l) := ⟨_, _, rfl⟩
  have e1 : Hid (negS n1 l1 = ((nn, ln), 0)) := by rw [← hn]; exact negS_z h1
  rw [hn]
  clear hs1 hs2 h1 hn
  go_enter Try.func54, Try.ntmps54
  go_wp2_with fail
  have KaX : Hid (Cf (((w.alloc (.cells #[.bool n1, .slice A1 l1.length c1, .bool n2, .slice A2 l2.length c2] 73)).alloc (.cells #[.bool false, .slice none 0 0, .bool false, .slice none 0 0] 26)).drew) w.heap.size n1 A1 l1.length c1 n2 A2 l2.length c2) := Cf.drew (Cf.keep (Cf.fresh (by simp) _ _ _ _ _ _ _ _ _) (blw1 _ _))
  have KoX : Hid (Cf (((w.alloc (.cells #[.bool n1, .slice A1 l1.length c1, .bool n2, .slice A2 l2.length c2] 73)).alloc (.cells #[.bool false, .slice none 0 0, .bool false, .slice none 0 0] 26)).drew) (w.heap.size + 1) false none 0 0 false none 0 0) := Cf.drew (Cf.fresh (by simp) _ _ _ _ _ _ _ _ _)
  have FoX : Hid (Ff (((w.alloc (.cells #[.bool n1, .slice A1 l1.length c1, .bool n2, .slice A2 l2.length c2] 73)).alloc (.cells #[.bool false, .slice none 0 0, .bool false, .slice none 0 0] 26)).drew) (w.heap.size + 1)) := Ff.drew (Ff.fresh (by simp) _ _)
  have S1X : Hid (Sl (((w.alloc (.cells #[.bool n1, .slice A1 l1.length c1, .bool n2, .slice A2 l2.length c2] 73)).alloc (.cells #[.bool false, .slice none 0 0, .bool false, .slice none 0 0] 26)).drew) A1 l1 c1) := Sl.drew ((S1.out.alloc _).alloc _)
  have S2X : Hid (Sl (((w.alloc (.cells #[.bool n1, .slice A1 l1.length c1, .bool n2, .slice A2 l2.length c2] 73)).alloc (.cells #[.bool false, .slice none 0 0, .bool false, .slice none 0 0] 26)).drew) A2 l2 c2) := Sl.drew ((S2.out.alloc _).alloc _)
  have BX : Hid (Below w.heap.size w (((w.alloc (.cells #[.bool n1, .slice A1 l1.length c1, .bool n2, .slice A2 l2.length c2] 73)).alloc (.cells #[.bool false, .slice none 0 0, .bool false, .slice none 0 0] 26)).drew)) := Below.drew (below_mono (below_mono B.out (blw1 _ _)) (blw1 _ _))
  clear S1 S2 B
  have J0 : Hid ((((w.alloc (.cells #[.bool n1, .slice A1 l1.length c1, .bool n2, .slice A2 l2.length c2] 73)).alloc (.cells #[.bool false, .slice none 0 0, .bool false, .slice none 0 0] 26)).drew).cell? ⟨w.heap.size, 0, none⟩ = some (.bool n1) ∧ (((w.alloc (.cells #[.bool n1, .slice A1 l1.length c1, .bool n2, .slice A2 l2.length c2] 73)).alloc (.cells #[.bool false, .slice none 0 0, .bool false, .slice none 0 0] 26)).drew).cell? ⟨w.heap.size, 1, none⟩ = some (.slice A1 l1.length c1) ∧ (((w.alloc (.cells #[.bool n1, .slice A1 l1.length c1, .bool n2, .slice A2 l2.length c2] 73)).alloc (.cells #[.bool false, .slice none 0 0, .bool false, .slice none 0 0] 26)).drew).cell? ⟨w.heap.size, 2, none⟩ = some (.bool n2) ∧ (((w.alloc (.cells #[.bool n1, .slice A1 l1.length c1, .bool n2, .slice A2 l2.length c2] 73)).alloc (.cells #[.bool false, .slice none 0 0, .bool false, .slice none 0 0] 26)).drew).cell? ⟨w.heap.size, 3, none⟩ = some (.slice A2 l2.length c2)) := KaX.out
  go_region_held3 (fun w' => w'.cell? ⟨w.heap.size, 0, none⟩ = some (.bool n1) ∧ w'.cell? ⟨w.heap.size, 1, none⟩ = some (.slice A1 l1.length c1) ∧ w'.cell? ⟨w.heap.size, 2, none⟩ = some (.bool n2) ∧ w'.cell? ⟨w.heap.size, 3, none⟩ = some (.slice A2 l2.length c2))
    (first | with_reducible exact J2.out | with_reducible exact far1 (by omega) _ J2.out | with_reducible exact far1 (by omega) _ (far1 (by omega) _ (far1 (by omega) _ (far1 (by omega) _ J2.out))) | with_reducible exact far1 (by omega) _ (far1 (by omega) _ (far1 (by omega) _ (far1 (by omega) _ (far1 (by omega) _ J2.out)))) | with_reducible exact J1.out | with_reducible exact J0.out)
    (first
      | (go_at_call 63; (with_reducible refine (neg_any n1 A1 l1 c1 _ S1X.out).mono ?_); rw [e1.out]; rintro e v1 ⟨A3, c3, rfl, hs3, hb⟩; (try dsimp only at hs3); (try dsimp only); have S3v1 : Hid (Sl v1 A3 ln c3) := hs3; have S2v1 := Lib.hid (S2X.out.below hb); have Fov1 := Lib.hid (Ff.keep FoX.out KoX.out hb); have Kov1 := Lib.hid (KoX.out.keep hb); have Kav1 := Lib.hid (KaX.out.keep hb); have J1 : Hid (v1.cell? ⟨w.heap.size, 0, none⟩ = some (.bool n1) ∧ v1.cell? ⟨w.heap.size, 1, none⟩ = some (.slice A1 l1.length c1) ∧ v1.cell? ⟨w.heap.size, 2, none⟩ = some (.bool n2) ∧ v1.cell? ⟨w.heap.size, 3, none⟩ = some (.slice A2 l2.length c2)) := Kav1.out; have Bv1 := Lib.hid (below_mono BX.out hb); clear hb hs3)
      | (go_at_call 43; (with_reducible refine (must_ok nn A3 ln.length c3 _).mono ?_); rintro e v2 ⟨rfl, hb⟩; have S3v2 := Lib.hid (S3v1.out.below hb); have S2v2 := Lib.hid (S2v1.out.below hb); have Fov2 := Lib.hid (Ff.keep Fov1.out Kov1.out hb); have Kov2 := Lib.hid (Kov1.out.keep hb); have Kav2 := Lib.hid (Kav1.out.keep hb); have J2 : Hid (v2.cell? ⟨w.heap.size, 0, none⟩ = some (.bool n1) ∧ v2.cell? ⟨w.heap.size, 1, none⟩ = some (.slice A1 l1.length c1) ∧ v2.cell? ⟨w.heap.size, 2, none⟩ = some (.bool n2) ∧ v2.cell? ⟨w.heap.size, 3, none⟩ = some (.slice A2 l2.length c2)) := Kav2.out; have Bv2 := Lib.hid (below_mono Bv1.out hb); obtain ⟨r0, r1, r2, r3⟩ := Kov2.out; obtain ⟨g0, g1, g2, g3⟩ := Fov2.out; clear hb))
  go_wp2
  exact bodyPost_ret (v := .agg #[.bool nn, .slice A3 ln.length c3, .bool n2, .slice A2 l2.length c2]) (by simp [results, Try.results54, go_sem, r0, r1, r2, r3]) rfl (fres1_store (r := ((nn, ln), (n2, l2))) S3v2.out S2v2.out Kov2.out Bv2.out (by omega) _ _ _ _)

set_option maxRecDepth 100000 in
set_option maxHeartbeats 2000000 in
theorem fneg_any (n1 n2 : Bool) (A1 A2 : Option Addr) (l1 l2 : List Nat) (c1 c2 : Nat) (w : World) (hs1 : Sl w A1 l1 c1) (hs2 : Sl w A2 l2 c2) :
    Calls Try.prog 22 #[.agg #[.bool n1, .slice A1 l1.length c1, .bool n2, .slice A2 l2.length c2]] w (FRes (negF n1 l1 n2 l2) w) := by
  have S1 := Lib.hid hs1
  have S2 := Lib.hid hs2
  have B : Hid (Below w.heap.size w w) := Below.refl _ _
  cases hb : badF n1 l1 n2 l2 with
  | true =>
    have hr : negF n1 l1 n2 l2 = (zF, 8) := by unfold negF; rw [hb]; rfl
    have e1 : Hid (chkF n1 l1 n2 l2 = 8) := by unfold chkF; rw [hb]; rfl
    rw [hr]
    clear hs1 hs2 hr hb
    go_enter_defers Try.func22, Try.ntmps22
    go_wp2_with fail
    refine (fcheck_any n1 n2 A1 A2 l1 l2 c1 c2 _ (((S1.out.alloc _).alloc _).alloc _) (((S2.out.alloc _).alloc _).alloc _)).mono ?_
    rw [e1.out]
    rintro e w1 ⟨rfl, hb⟩
    have Ka' : Hid (Cf w1 w.heap.size n1 A1 l1.length c1 n2 A2 l2.length c2) := Cf.keep (Cf.keep (Cf.keep (Cf.fresh (by simp) _ _ _ _ _ _ _ _ _) (blw1 _ _)) (blw1 _ _)) hb
    have Fo' : Hid (Ff w1 (w.heap.size + 1)) := Ff.keep (Ff.keep (Ff.fresh (by simp) _ _) (Cf.fresh (by simp) _ _ _ _ _ _ _ _ _) (blw1 _ _)) (Cf.keep (Cf.fresh (by simp) _ _ _ _ _ _ _ _ _) (blw1 _ _)) hb
    have Ko' : Hid (Cf w1 (w.heap.size + 1) false none 0 0 false none 0 0) := Cf.keep (Cf.keep (Cf.fresh (by simp) _ _ _ _ _ _ _ _ _) (blw1 _ _)) hb
    have Ke' : Hid (C1 w1 (w.heap.size + 1 + 1) (.int .i64 0)) := C1.keep (C1.fresh (by simp) _ _) hb
    have S1' : Hid (Sl w1 A1 l1 c1) := Sl.below (((S1.out.alloc _).alloc _).alloc _) hb
    have S2' : Hid (Sl w1 A2 l2 c2) := Sl.below (((S2.out.alloc _).alloc _).alloc _) hb
    have B' : Hid (Below w.heap.size w w1) := below_mono (below_mono (below_mono (below_mono B.out (blw1 _ _)) (blw1 _ _)) (blw1 _ _)) hb
    clear hb S1 S2 B
    have Ka := Ka'
    have Fo := Fo'
    have Ko := Ko'
    have Ke := Ke'
    have S1 := S1'
    have S2 := S2'
    have B := B'
    clear Ka' Fo' Ko' Ke' S1' S2' B'
    obtain ⟨qa0, qa1, qa2, qa3⟩ := Ka.out
    have hza : w.heap.size < w1.heap.size := lt_of_cell (a := ⟨w.heap.size, 0, none⟩) Ka.out.1
    have hzo : w.heap.size + 1 < w1.heap.size := lt_of_cell (a := ⟨w.heap.size + 1, 0, none⟩) Ko.out.1
    have hze : w.heap.size + 1 + 1 < w1.heap.size := lt_of_cell (a := ⟨w.heap.size + 1 + 1, 0, none⟩) Ke.out.1
    go_wp2_with fail
    refine (want_bad 8 (by decide) _).mono ?_
    rintro e w2 ⟨rfl, hb⟩
    clear qa0 qa1 qa2 qa3
    have Ka' : Hid (Cf w2 w.heap.size n1 A1 l1.length c1 n2 A2 l2.length c2) := Cf.keep Ka.out hb
    have Fo' : Hid (Ff w2 (w.heap.size + 1)) := Ff.keep Fo.out Ko.out hb
    have Ko' : Hid (Cf w2 (w.heap.size + 1) false none 0 0 false none 0 0) := Cf.keep Ko.out hb
    have Ke' : Hid (C1 w2 (w.heap.size + 1 + 1) (.int .i64 0)) := C1.keep Ke.out hb
    have S1' : Hid (Sl w2 A1 l1 c1) := Sl.below S1.out hb
    have S2' : Hid (Sl w2 A2 l2 c2) := Sl.below S2.out hb
    have B' : Hid (Below w.heap.size w w2) := below_mono B.out hb
    clear hb Ka Fo Ko Ke S1 S2 B
    have Ka := Ka'
    have Fo := Fo'
    have Ko := Ko'
    have Ke := Ke'
    have S1 := S1'
    have S2 := S2'
    have B := B'
    clear Ka' Fo' Ko' Ke' S1' S2' B'
    go_wp2_with fail
    refine leaves_cons (f := 28) (args := #[.pointer (some ⟨w.heap.size + 1 + 1, 0, none⟩)]) (by simp) (by simp [go_sem]) ?_
    refine (catch_fall (w.heap.size + 1 + 1) 0 8 [] _ Ke.out).mono ?_
    rintro e u' w'' ⟨rfl, rfl, ob, rfl⟩
    obtain ⟨qo0, qo1, qo2, qo3⟩ := Ko.out
    obtain ⟨fo0, fo1, fo2, fo3⟩ := Fo.out
    have hze2 : w.heap.size + 1 < w2.heap.size := lt_of_cell (a := ⟨w.heap.size + 1, 0, none⟩) qo0
    have hze3 : w.heap.size + 1 + 1 < w2.heap.size := lt_of_cell (a := ⟨w.heap.size + 1 + 1, 0, none⟩) Ke.out.1
    simp [Leaves, settle, results, Try.results22, go_sem, qo0, qo1, qo2, qo3, hze2, hze3, Ke.out.1]
    exact fres_fall 8 B.out (by omega) _ _
  | false =>
    have e1 : Hid (chkF n1 l1 n2 l2 = 0) := by unfold chkF; rw [hb]; rfl
    have va := vf_of hs1.lim hs2.lim hb
    rw [negF_good va]
    obtain ⟨h1, h2, hp, _⟩ := va
    generalize zv n1 l1 = x at *
    generalize zv n2 l2 = y at *
    obtain ⟨nn, ln, hn⟩ : ∃ n l, wOf (-x) = (n, l) := ⟨_, _, rfl⟩
    have e2 : Hid (absS n2 l2 = ((n2, l2), 0)) := by rw [Hid, absS_z h2, h2.1, show ((y.natAbs : Nat) : Int) = y by omega]
    have HG : Hid (∀ W A c, Sl W A1 l1 c1 → Sl W A l2 c → Calls Try.prog 54 #[.agg #[.bool n1, .slice A1 l1.length c1, .bool n2, .slice A l2.length c]] W (FRes1 ((nn, ln), (n2, l2)) W)) := fun W A c a b => by rw [← hn]; exact get_any n1 n2 A1 A l1 l2 c1 c x h1 W a b
    rw [hn]
    clear hs1 hs2 hb h1 h2 hp hn
    go_enter_defers Try.func22, Try.ntmps22
    go_wp2_with fail
    refine (fcheck_any n1 n2 A1 A2 l1 l2 c1 c2 _ (((S1.out.alloc _).alloc _).alloc _) (((S2.out.alloc _).alloc _).alloc _)).mono ?_
    rw [e1.out]
    rintro e w1 ⟨rfl, hb⟩
    have Ka' : Hid (Cf w1 w.heap.size n1 A1 l1.length c1 n2 A2 l2.length c2) := Cf.keep (Cf.keep (Cf.keep (Cf.fresh (by simp) _ _ _ _ _ _ _ _ _) (blw1 _ _)) (blw1 _ _)) hb
    have Fo' : Hid (Ff w1 (w.heap.size + 1)) := Ff.keep (Ff.keep (Ff.fresh (by simp) _ _) (Cf.fresh (by simp) _ _ _ _ _ _ _ _ _) (blw1 _ _)) (Cf.keep (Cf.fresh (by simp) _ _ _ _ _ _ _ _ _) (blw1 _ _)) hb
    have Ko' : Hid (Cf w1 (w.heap.size + 1) false none 0 0 false none 0 0) := Cf.keep (Cf.keep (Cf.fresh (by simp) _ _ _ _ _ _ _ _ _) (blw1 _ _)) hb
    have Ke' : Hid (C1 w1 (w.heap.size + 1 + 1) (.int .i64 0)) := C1.keep (C1.fresh (by simp) _ _) hb
    have S1' : Hid (Sl w1 A1 l1 c1) := Sl.below (((S1.out.alloc _).alloc _).alloc _) hb
    have S2' : Hid (Sl w1 A2 l2 c2) := Sl.below (((S2.out.alloc _).alloc _).alloc _) hb
    have B' : Hid (Below w.heap.size w w1) := below_mono (below_mono (below_mono (below_mono B.out (blw1 _ _)) (blw1 _ _)) (blw1 _ _)) hb
    clear hb S1 S2 B
    have Ka := Ka'
    have Fo := Fo'
    have Ko := Ko'
    have Ke := Ke'
    have S1 := S1'
    have S2 := S2'
    have B := B'
    clear Ka' Fo' Ko' Ke' S1' S2' B'
    obtain ⟨qa0, qa1, qa2, qa3⟩ := Ka.out
    have hza : w.heap.size < w1.heap.size := lt_of_cell (a := ⟨w.heap.size, 0, none⟩) Ka.out.1
    have hzo : w.heap.size + 1 < w1.heap.size := lt_of_cell (a := ⟨w.heap.size + 1, 0, none⟩) Ko.out.1
    have hze : w.heap.size + 1 + 1 < w1.heap.size := lt_of_cell (a := ⟨w.heap.size + 1 + 1, 0, none⟩) Ke.out.1
    go_wp2_with fail
    refine (want_ok _).mono ?_
    rintro e w2 ⟨rfl, hb⟩
    clear qa0 qa1 qa2 qa3
    have Ka' : Hid (Cf w2 w.heap.size n1 A1 l1.length c1 n2 A2 l2.length c2) := Cf.keep Ka.out hb
    have Fo' : Hid (Ff w2 (w.heap.size + 1)) := Ff.keep Fo.out Ko.out hb
    have Ko' : Hid (Cf w2 (w.heap.size + 1) false none 0 0 false none 0 0) := Cf.keep Ko.out hb
    have Ke' : Hid (C1 w2 (w.heap.size + 1 + 1) (.int .i64 0)) := C1.keep Ke.out hb
    have S1' : Hid (Sl w2 A1 l1 c1) := Sl.below S1.out hb
    have S2' : Hid (Sl w2 A2 l2 c2) := Sl.below S2.out hb
    have B' : Hid (Below w.heap.size w w2) := below_mono B.out hb
    clear hb Ka Fo Ko Ke S1 S2 B
    have Ka := Ka'
    have Fo := Fo'
    have Ko := Ko'
    have Ke := Ke'
    have S1 := S1'
    have S2 := S2'
    have B := B'
    clear Ka' Fo' Ko' Ke' S1' S2' B'
    obtain ⟨qa0, qa1, qa2, qa3⟩ := Ka.out
    replace hza : w.heap.size < w2.heap.size := lt_of_cell (a := ⟨w.heap.size, 0, none⟩) Ka.out.1
    replace hzo : w.heap.size + 1 < w2.heap.size := lt_of_cell (a := ⟨w.heap.size + 1, 0, none⟩) Ko.out.1
    replace hze : w.heap.size + 1 + 1 < w2.heap.size := lt_of_cell (a := ⟨w.heap.size + 1 + 1, 0, none⟩) Ke.out.1
    go_wp2_with fail
    clear qa0 qa1 qa2 qa3
    have KaX : Hid (Cf w2.drew w.heap.size n1 A1 l1.length c1 n2 A2 l2.length c2) := Cf.drew Ka.out
    have KoX : Hid (Cf w2.drew (w.heap.size + 1) false none 0 0 false none 0 0) := Cf.drew Ko.out
    have FoX : Hid (Ff w2.drew (w.heap.size + 1)) := Ff.drew Fo.out
    have KeX : Hid (C1 w2.drew (w.heap.size + 1 + 1) (.int .i64 0)) := Ke.out
    have S1X : Hid (Sl w2.drew A1 l1 c1) := Sl.drew S1.out
    have S2X : Hid (Sl w2.drew A2 l2 c2) := Sl.drew S2.out
    have BX : Hid (Below w.heap.size w w2.drew) := Below.drew B.out
    clear S1 S2 B Ka Ko Fo Ke hza hzo hze
    have J0 : Hid (w2.drew.cell? ⟨w.heap.size, 0, none⟩ = some (.bool n1) ∧ w2.drew.cell? ⟨w.heap.size, 1, none⟩ = some (.slice A1 l1.length c1) ∧ w2.drew.cell? ⟨w.heap.size, 2, none⟩ = some (.bool n2) ∧ w2.drew.cell? ⟨w.heap.size, 3, none⟩ = some (.slice A2 l2.length c2)) := KaX.out
    go_region_held3 (fun w' => w'.cell? ⟨w.heap.size, 0, none⟩ = some (.bool n1) ∧ w'.cell? ⟨w.heap.size, 1, none⟩ = some (.slice A1 l1.length c1) ∧ w'.cell? ⟨w.heap.size, 2, none⟩ = some (.bool n2) ∧ w'.cell? ⟨w.heap.size, 3, none⟩ = some (.slice A2 l2.length c2))
      (first | with_reducible exact J3.out | with_reducible exact far1 (by omega) _ J3.out | with_reducible exact far1 (by omega) _ (far1 (by omega) _ (far1 (by omega) _ (far1 (by omega) _ J3.out))) | with_reducible exact far1 (by omega) _ (far1 (by omega) _ (far1 (by omega) _ (far1 (by omega) _ (far1 (by omega) _ J3.out)))) | with_reducible exact J2.out | with_reducible exact J1.out | with_reducible exact J0.out)
      (first
        | (go_at_call 55; (with_reducible refine (abs_any n2 A2 l2 c2 _ S2X.out).mono ?_); rw [e2.out]; rintro e v1 ⟨A3, c3, rfl, hs3, hb⟩; (try dsimp only at hs3); (try dsimp only); have S3v1 : Hid (Sl v1 A3 l2 c3) := hs3; have Fov1 := Lib.hid (Ff.keep FoX.out KoX.out hb); have Kov1 := Lib.hid (KoX.out.keep hb); have Kev1 := Lib.hid (KeX.out.keep hb); have Kav1 := Lib.hid (KaX.out.keep hb); have Bv1 := Lib.hid (below_mono BX.out hb); have S1v1 := Lib.hid (S1X.out.below hb); have J1 : Hid (v1.cell? ⟨w.heap.size, 0, none⟩ = some (.bool n1) ∧ v1.cell? ⟨w.heap.size, 1, none⟩ = some (.slice A1 l1.length c1) ∧ v1.cell? ⟨w.heap.size, 2, none⟩ = some (.bool n2) ∧ v1.cell? ⟨w.heap.size, 3, none⟩ = some (.slice A2 l2.length c2)) := Kav1.out; clear hb hs3)
        | (go_at_call 43; (with_reducible refine (must_ok n2 A3 l2.length c3 _).mono ?_); rintro e v2 ⟨rfl, hb⟩; have Fov2 := Lib.hid (Ff.keep Fov1.out Kov1.out hb); have Kov2 := Lib.hid (Kov1.out.keep hb); have Kev2 := Lib.hid (Kev1.out.keep hb); have Kav2 := Lib.hid (Kav1.out.keep hb); have Bv2 := Lib.hid (below_mono Bv1.out hb); have S1v2 := Lib.hid (S1v1.out.below hb); have S3v2 := Lib.hid (S3v1.out.below hb); have J2 : Hid (v2.cell? ⟨w.heap.size, 0, none⟩ = some (.bool n1) ∧ v2.cell? ⟨w.heap.size, 1, none⟩ = some (.slice A1 l1.length c1) ∧ v2.cell? ⟨w.heap.size, 2, none⟩ = some (.bool n2) ∧ v2.cell? ⟨w.heap.size, 3, none⟩ = some (.slice A2 l2.length c2)) := Kav2.out; clear hb)
        | (go_at_call 54; (with_reducible refine (HG.out _ _ _ S1v2.out S3v2.out).mono ?_); rintro e v3 ⟨A5, c5, A6, c6, rfl, hs5, hs6, hb⟩; (try dsimp only at hs5 hs6); (try dsimp only); have S5v3 : Hid (Sl v3 A5 ln c5) := hs5; have S6v3 : Hid (Sl v3 A6 l2 c6) := hs6; have Fov3 := Lib.hid (Ff.keep Fov2.out Kov2.out hb); have Kov3 := Lib.hid (Kov2.out.keep hb); have Kev3 := Lib.hid (Kev2.out.keep hb); have Kav3 := Lib.hid (Kav2.out.keep hb); have Bv3 := Lib.hid (below_mono Bv2.out hb); have J3 : Hid (v3.cell? ⟨w.heap.size, 0, none⟩ = some (.bool n1) ∧ v3.cell? ⟨w.heap.size, 1, none⟩ = some (.slice A1 l1.length c1) ∧ v3.cell? ⟨w.heap.size, 2, none⟩ = some (.bool n2) ∧ v3.cell? ⟨w.heap.size, 3, none⟩ = some (.slice A2 l2.length c2)) := Kav3.out; obtain ⟨r0, r1, r2, r3⟩ := Kov3.out; obtain ⟨g0, g1, g2, g3⟩ := Fov3.out; obtain ⟨u0, u1⟩ := Kev3.out; clear hb hs5 hs6))
    go_wp2_with fail
    refine leaves_cons (f := 28) (args := #[.pointer (some ⟨w.heap.size + 1 + 1, 0, none⟩)]) (by simp) (by simp [go_sem]) ?_
    refine (catch_idle ⟨w.heap.size + 1 + 1, 0, none⟩ _).mono ?_
    rintro e u' w'' ⟨rfl, rfl, rfl⟩
    simp [Leaves, settle, results, Try.results22, go_sem, r0, r1, r2, r3, u0]
    exact fres_store (r := ((nn, ln), (n2, l2))) 0 S5v3.out S6v3.out Kov3.out Kev3.out (by omega) Bv3.out (by omega) (by omega) _ _ _ _ _

set_option maxRecDepth 100000 in
set_option maxHeartbeats 2000000 in
theorem rnegF_any (n1 n2 : Bool) (A1 A2 : Option Addr) (l1 l2 : List Nat) (c1 c2 : Nat) (w : World) (hs1 : Sl w A1 l1 c1) (hs2 : Sl w A2 l2 c2) :
    Calls Try.prog 23 #[.agg #[.bool n1, .slice A1 l1.length c1, .bool n2, .slice A2 l2.length c2]] w (FRes (negF n1 l1 n2 l2) w) := by
  have S1 := Lib.hid hs1
  have S2 := Lib.hid hs2
  have B : Hid (Below w.heap.size w w) := Below.refl _ _
  cases hb : badF n1 l1 n2 l2 with
  | true =>
    have hr : negF n1 l1 n2 l2 = (zF, 8) := by unfold negF; rw [hb]; rfl
    have e1 : Hid (chkF n1 l1 n2 l2 = 8) := by unfold chkF; rw [hb]; rfl
    rw [hr]
    clear hs1 hs2 hr hb
    go_enter Try.func23, Try.ntmps23
    go_wp2_with fail
    refine (rfcheck_any n1 n2 A1 A2 l1 l2 c1 c2 _ ((S1.out.alloc _).alloc _) ((S2.out.alloc _).alloc _)).mono ?_
    rw [e1.out]
    rintro e w1 ⟨rfl, hb⟩
    have Ka' : Hid (Cf w1 w.heap.size n1 A1 l1.length c1 n2 A2 l2.length c2) := Cf.keep (Cf.keep (Cf.fresh (by simp) _ _ _ _ _ _ _ _ _) (blw1 _ _)) hb
    have Fo' : Hid (Ff w1 (w.heap.size + 1)) := Ff.keep (Ff.fresh (by simp) _ _) (Cf.fresh (by simp) _ _ _ _ _ _ _ _ _) hb
    have Ko' : Hid (Cf w1 (w.heap.size + 1) false none 0 0 false none 0 0) := Cf.keep (Cf.fresh (by simp) _ _ _ _ _ _ _ _ _) hb
    have S1' : Hid (Sl w1 A1 l1 c1) := Sl.below ((S1.out.alloc _).alloc _) hb
    have S2' : Hid (Sl w1 A2 l2 c2) := Sl.below ((S2.out.alloc _).alloc _) hb
    have B' : Hid (Below w.heap.size w w1) := below_mono (below_mono (below_mono B.out (blw1 _ _)) (blw1 _ _)) hb
    clear hb S1 S2 B
    have Ka := Ka'
    have Fo := Fo'
    have Ko := Ko'
    have S1 := S1'
    have S2 := S2'
    have B := B'
    clear Ka' Fo' Ko' S1' S2' B'
    obtain ⟨qa0, qa1, qa2, qa3⟩ := Ka.out
    obtain ⟨qo0, qo1, qo2, qo3⟩ := Ko.out
    obtain ⟨fo0, fo1, fo2, fo3⟩ := Fo.out
    have hza : w.heap.size < w1.heap.size := lt_of_cell (a := ⟨w.heap.size, 0, none⟩) Ka.out.1
    have hzo : w.heap.size + 1 < w1.heap.size := lt_of_cell (a := ⟨w.heap.size + 1, 0, none⟩) Ko.out.1
    go_wp2_with fail
    refine (rfcheck_any n1 n2 A1 A2 l1 l2 c1 c2 _ S1.out S2.out).mono ?_
    rw [e1.out]
    rintro e w2 ⟨rfl, hb⟩
    clear qa0 qa1 qa2 qa3 qo0 qo1 qo2 qo3 fo0 fo1 fo2 fo3
    have Ka' : Hid (Cf w2 w.heap.size n1 A1 l1.length c1 n2 A2 l2.length c2) := Cf.keep Ka.out hb
    have Fo' : Hid (Ff w2 (w.heap.size + 1)) := Ff.keep Fo.out Ko.out hb
    have Ko' : Hid (Cf w2 (w.heap.size + 1) false none 0 0 false none 0 0) := Cf.keep Ko.out hb
    have S1' : Hid (Sl w2 A1 l1 c1) := Sl.below S1.out hb
    have S2' : Hid (Sl w2 A2 l2 c2) := Sl.below S2.out hb
    have B' : Hid (Below w.heap.size w w2) := below_mono B.out hb
    clear hb Ka Fo Ko S1 S2 B
    have Ka := Ka'
    have Fo := Fo'
    have Ko := Ko'
    have S1 := S1'
    have S2 := S2'
    have B := B'
    clear Ka' Fo' Ko' S1' S2' B'
    obtain ⟨qa0, qa1, qa2, qa3⟩ := Ka.out
    obtain ⟨qo0, qo1, qo2, qo3⟩ := Ko.out
    obtain ⟨fo0, fo1, fo2, fo3⟩ := Fo.out
    replace hza : w.heap.size < w2.heap.size := lt_of_cell (a := ⟨w.heap.size, 0, none⟩) Ka.out.1
    replace hzo : w.heap.size + 1 < w2.heap.size := lt_of_cell (a := ⟨w.heap.size + 1, 0, none⟩) Ko.out.1
    go_wp2
    exact bodyPost_ret (v := .tuple #[.agg #[.bool false, .slice none 0 0, .bool false, .slice none 0 0], .int .i64 8]) (by simp [results, Try.results23, go_sem, qo0, qo1, qo2, qo3]) rfl (fres_store4 (r := zF) 8 (Sl.nil _ none 0) (Sl.nil _ none 0) Ko.out B.out (by omega) _ _ _ _)
  | false =>
    have e1 : Hid (chkF n1 l1 n2 l2 = 0) := by unfold chkF; rw [hb]; rfl
    have va := vf_of hs1.lim hs2.lim hb
    rw [negF_good va]
    obtain ⟨h1, _, _, _⟩ := va
    generalize zv n1 l1 = x at *
    obtain ⟨nn, ln, hn⟩ : ∃ n l, wOf (-x) = (n, l) := ⟨_, _, rfl⟩
    have e2 : Hid (negS n1 l1 = ((nn, ln), 0)) := by rw [← hn]; exact negS_z h1
    rw [hn]
    clear hs1 hs2 hb h1 hn
    go_enter Try.func23, Try.ntmps23
    go_wp2_with fail
    refine (rfcheck_any n1 n2 A1 A2 l1 l2 c1 c2 _ ((S1.out.alloc _).alloc _) ((S2.out.alloc _).alloc _)).mono ?_
    rw [e1.out]
    rintro e w1 ⟨rfl, hb⟩
    have Ka' : Hid (Cf w1 w.heap.size n1 A1 l1.length c1 n2 A2 l2.length c2) := Cf.keep (Cf.keep (Cf.fresh (by simp) _ _ _ _ _ _ _ _ _) (blw1 _ _)) hb
    have Fo' : Hid (Ff w1 (w.heap.size + 1)) := Ff.keep (Ff.fresh (by simp) _ _) (Cf.fresh (by simp) _ _ _ _ _ _ _ _ _) hb
    have Ko' : Hid (Cf w1 (w.heap.size + 1) false none 0 0 false none 0 0) := Cf.keep (Cf.fresh (by simp) _ _ _ _ _ _ _ _ _) hb
    have S1' : Hid (Sl w1 A1 l1 c1) := Sl.below ((S1.out.alloc _).alloc _) hb
    have S2' : Hid (Sl w1 A2 l2 c2) := Sl.below ((S2.out.alloc _).alloc _) hb
    have B' : Hid (Below w.heap.size w w1) := below_mono (below_mono (below_mono B.out (blw1 _ _)) (blw1 _ _)) hb
    clear hb S1 S2 B
    have Ka := Ka'
    have Fo := Fo'
    have Ko := Ko'
    have S1 := S1'
    have S2 := S2'
    have B := B'
    clear Ka' Fo' Ko' S1' S2' B'
    obtain ⟨qa0, qa1, qa2, qa3⟩ := Ka.out
    obtain ⟨qo0, qo1, qo2, qo3⟩ := Ko.out
    obtain ⟨fo0, fo1, fo2, fo3⟩ := Fo.out
    have hza : w.heap.size < w1.heap.size := lt_of_cell (a := ⟨w.heap.size, 0, none⟩) Ka.out.1
    have hzo : w.heap.size + 1 < w1.heap.size := lt_of_cell (a := ⟨w.heap.size + 1, 0, none⟩) Ko.out.1
    go_wp2_with fail
    refine (rneg_any n1 A1 l1 c1 _ S1.out).mono ?_
    rw [e2.out]
    rintro e w2 ⟨A3, c3, rfl, hs3, hb⟩
    clear qa0 qa1 qa2 qa3 qo0 qo1 qo2 qo3 fo0 fo1 fo2 fo3
    have Ka' : Hid (Cf w2 w.heap.size n1 A1 l1.length c1 n2 A2 l2.length c2) := Cf.keep Ka.out hb
    have Fo' : Hid (Ff w2 (w.heap.size + 1)) := Ff.keep Fo.out Ko.out hb
    have Ko' : Hid (Cf w2 (w.heap.size + 1) false none 0 0 false none 0 0) := Cf.keep Ko.out hb
    have S1' : Hid (Sl w2 A1 l1 c1) := Sl.below S1.out hb
    have S2' : Hid (Sl w2 A2 l2 c2) := Sl.below S2.out hb
    have B' : Hid (Below w.heap.size w w2) := below_mono B.out hb
    clear hb Ka Fo Ko S1 S2 B
    have Ka := Ka'
    have Fo := Fo'
    have Ko := Ko'
    have S1 := S1'
    have S2 := S2'
    have B := B'
    clear Ka' Fo' Ko' S1' S2' B'
    (try dsimp only at hs3)
    (try dsimp only)
    have S3 : Hid (Sl w2 A3 ln c3) := hs3
    clear hs3
    obtain ⟨qa0, qa1, qa2, qa3⟩ := Ka.out
    obtain ⟨qo0, qo1, qo2, qo3⟩ := Ko.out
    obtain ⟨fo0, fo1, fo2, fo3⟩ := Fo.out
    replace hza : w.heap.size < w2.heap.size := lt_of_cell (a := ⟨w.heap.size, 0, none⟩) Ka.out.1
    replace hzo : w.heap.size + 1 < w2.heap.size := lt_of_cell (a := ⟨w.heap.size + 1, 0, none⟩) Ko.out.1
    have hz9 : w.heap.size + 1 < w2.heap.size := by omega
    go_wp2
    exact bodyPost_ret (v := .tuple #[.agg #[.bool nn, .slice A3 ln.length c3, .bool n2, .slice A2 l2.length c2], .int .i64 0]) (by simp [results, Try.results23, go_sem, qo0, qo1, qo2, qo3, hz9]) rfl (FRes.alloc (fres_store4 (r := ((nn, ln), (n2, l2))) 0 S3.out S2.out Ko.out B.out (by omega) _ _ _ _) _)

set_option maxRecDepth 100000 in
set_option maxHeartbeats 2000000 in
theorem rcmpF_any (n1 n2 n3 n4 : Bool) (A1 A2 A3 A4 : Option Addr) (l1 l2 l3 l4 : List Nat) (c1 c2 c3 c4 : Nat) (w : World) (hs1 : Sl w A1 l1 c1) (hs2 : Sl w A2 l2 c2) (hs3 : Sl w A3 l3 c3) (hs4 : Sl w A4 l4 c4) :
    Calls Try.prog 25 #[.agg #[.bool n1, .slice A1 l1.length c1, .bool n2, .slice A2 l2.length c2], .agg #[.bool n3, .slice A3 l3.length c3, .bool n4, .slice A4 l4.length c4]] w fun e w' => e = .returned (.tuple #[.int .i64 (cmpF n1 l1 n2 l2 n3 l3 n4 l4).1, .int .i64 (cmpF n1 l1 n2 l2 n3 l3 n4 l4).2]) ∧ Below w.heap.size w w' := by
  have S1 := Lib.hid hs1
  have S2 := Lib.hid hs2
  have S3 := Lib.hid hs3
  have S4 := Lib.hid hs4
  have B : Hid (Below w.heap.size w w) := Below.refl _ _
  cases hb : badF n1 l1 n2 l2 || badF n3 l3 n4 l4 with
  | true =>
    have hr : cmpF n1 l1 n2 l2 n3 l3 n4 l4 = (0, 8) := by unfold cmpF; rw [hb]; rfl
    have e1 : Hid (bothK n1 l1 n2 l2 n3 l3 n4 l4 = 8) := by unfold bothK; rw [hb]; rfl
    rw [hr]
    clear hr hb hs1 hs2 hs3 hs4
    go_enter Try.func25, Try.ntmps25
    go_wp2_with fail
    refine (rboth_any n1 n2 n3 n4 A1 A2 A3 A4 l1 l2 l3 l4 c1 c2 c3 c4 _ ((S1.out.alloc _).alloc _) ((S2.out.alloc _).alloc _) ((S3.out.alloc _).alloc _) ((S4.out.alloc _).alloc _)).mono ?_
    rw [e1.out]
    rintro e w1 ⟨rfl, hb⟩
    have Ka' : Hid (Cf w1 w.heap.size n1 A1 l1.length c1 n2 A2 l2.length c2) := Cf.keep (Cf.keep (Cf.fresh (by simp) _ _ _ _ _ _ _ _ _) (blw1 _ _)) hb
    have Kb' : Hid (Cf w1 (w.heap.size + 1) n3 A3 l3.length c3 n4 A4 l4.length c4) := Cf.keep (Cf.fresh (by simp) _ _ _ _ _ _ _ _ _) hb
    have S1' : Hid (Sl w1 A1 l1 c1) := Sl.below ((S1.out.alloc _).alloc _) hb
    have S2' : Hid (Sl w1 A2 l2 c2) := Sl.below ((S2.out.alloc _).alloc _) hb
    have S3' : Hid (Sl w1 A3 l3 c3) := Sl.below ((S3.out.alloc _).alloc _) hb
    have S4' : Hid (Sl w1 A4 l4 c4) := Sl.below ((S4.out.alloc _).alloc _) hb
    have B' : Hid (Below w.heap.size w w1) := below_mono (below_mono (below_mono B.out (blw1 _ _)) (blw1 _ _)) hb
    clear hb S1 S2 S3 S4 B
    have Ka := Ka'
    have Kb := Kb'
    have S1 := S1'
    have S2 := S2'
    have S3 := S3'
    have S4 := S4'
    have B := B'
    clear Ka' Kb' S1' S2' S3' S4' B'
    obtain ⟨qa0, qa1, qa2, qa3⟩ := Ka.out
    obtain ⟨qb0, qb1, qb2, qb3⟩ := Kb.out
    have hza : w.heap.size < w1.heap.size := lt_of_cell (a := ⟨w.heap.size, 0, none⟩) Ka.out.1
    have hzb : w.heap.size + 1 < w1.heap.size := lt_of_cell (a := ⟨w.heap.size + 1, 0, none⟩) Kb.out.1
    go_wp2_with fail
    refine (rboth_any n1 n2 n3 n4 A1 A2 A3 A4 l1 l2 l3 l4 c1 c2 c3 c4 _ S1.out S2.out S3.out S4.out).mono ?_
    rw [e1.out]
    rintro e w2 ⟨rfl, hb⟩
    clear qa0 qa1 qa2 qa3 qb0 qb1 qb2 qb3
    have Ka' : Hid (Cf w2 w.heap.size n1 A1 l1.length c1 n2 A2 l2.length c2) := Cf.keep Ka.out hb
    have Kb' : Hid (Cf w2 (w.heap.size + 1) n3 A3 l3.length c3 n4 A4 l4.length c4) := Cf.keep Kb.out hb
    have S1' : Hid (Sl w2 A1 l1 c1) := Sl.below S1.out hb
    have S2' : Hid (Sl w2 A2 l2 c2) := Sl.below S2.out hb
    have S3' : Hid (Sl w2 A3 l3 c3) := Sl.below S3.out hb
    have S4' : Hid (Sl w2 A4 l4 c4) := Sl.below S4.out hb
    have B' : Hid (Below w.heap.size w w2) := below_mono B.out hb
    clear hb Ka Kb S1 S2 S3 S4 B
    have Ka := Ka'
    have Kb := Kb'
    have S1 := S1'
    have S2 := S2'
    have S3 := S3'
    have S4 := S4'
    have B := B'
    clear Ka' Kb' S1' S2' S3' S4' B'
    obtain ⟨qa0, qa1, qa2, qa3⟩ := Ka.out
    obtain ⟨qb0, qb1, qb2, qb3⟩ := Kb.out
    replace hza : w.heap.size < w2.heap.size := lt_of_cell (a := ⟨w.heap.size, 0, none⟩) Ka.out.1
    replace hzb : w.heap.size + 1 < w2.heap.size := lt_of_cell (a := ⟨w.heap.size + 1, 0, none⟩) Kb.out.1
    go_wp2
    go_ret2
    exact ⟨rfl, B.out⟩
  | false =>
    obtain ⟨hb1, hb2⟩ := Bool.or_eq_false_iff.1 hb
    have va := vf_of hs1.lim hs2.lim hb1
    have vb := vf_of hs3.lim hs4.lim hb2
    have e1 : Hid (bothK n1 l1 n2 l2 n3 l3 n4 l4 = 0) := by unfold bothK; rw [hb]; rfl
    rw [cmpF_good va vb]
    obtain ⟨h1, h2, hp1, _⟩ := va
    obtain ⟨h3, h4, hp2, _⟩ := vb
    generalize zv n1 l1 = x1 at *
    generalize zv n2 l2 = y1 at *
    generalize zv n3 l3 = x2 at *
    generalize zv n4 l4 = y2 at *
    unfold cmpV
    obtain ⟨⟨⟨n5, l5⟩, k5⟩, r5⟩ : ∃ r, mulS n1 l1 n4 l4 = r := ⟨_, rfl⟩
    obtain ⟨⟨⟨n6, l6⟩, k6⟩, r6⟩ : ∃ r, mulS n3 l3 n2 l2 = r := ⟨_, rfl⟩
    have e5 := Lib.hid r5
    have e6 := Lib.hid r6
    cases f0 : fitB (x1 * y2) with
    | false =>
      rw [if_neg (by simp)]
      obtain rfl : k5 = 16 := by
        rw [mulS_out h1 h4, outZ_bad (fun e => by rw [fitB_iff.2 e] at f0; cases f0)] at r5
        exact (Prod.mk.inj r5).2.symm
      clear hb hb1 hb2 h1 h2 h3 h4 hp1 hp2 hs1 hs2 hs3 hs4 r5 r6 f0
      go_enter Try.func25, Try.ntmps25
      go_wp2_with fail
      refine (rboth_any n1 n2 n3 n4 A1 A2 A3 A4 l1 l2 l3 l4 c1 c2 c3 c4 _ ((S1.out.alloc _).alloc _) ((S2.out.alloc _).alloc _) ((S3.out.alloc _).alloc _) ((S4.out.alloc _).alloc _)).mono ?_
      rw [e1.out]
      rintro e w1 ⟨rfl, hb⟩
      have Ka' : Hid (Cf w1 w.heap.size n1 A1 l1.length c1 n2 A2 l2.length c2) := Cf.keep (Cf.keep (Cf.fresh (by simp) _ _ _ _ _ _ _ _ _) (blw1 _ _)) hb
      have Kb' : Hid (Cf w1 (w.heap.size + 1) n3 A3 l3.length c3 n4 A4 l4.length c4) := Cf.keep (Cf.fresh (by simp) _ _ _ _ _ _ _ _ _) hb
      have S1' : Hid (Sl w1 A1 l1 c1) := Sl.below ((S1.out.alloc _).alloc _) hb
      have S2' : Hid (Sl w1 A2 l2 c2) := Sl.below ((S2.out.alloc _).alloc _) hb
      have S3' : Hid (Sl w1 A3 l3 c3) := Sl.below ((S3.out.alloc _).alloc _) hb
      have S4' : Hid (Sl w1 A4 l4 c4) := Sl.below ((S4.out.alloc _).alloc _) hb
      have B' : Hid (Below w.heap.size w w1) := below_mono (below_mono (below_mono B.out (blw1 _ _)) (blw1 _ _)) hb
      clear hb S1 S2 S3 S4 B
      have Ka := Ka'
      have Kb := Kb'
      have S1 := S1'
      have S2 := S2'
      have S3 := S3'
      have S4 := S4'
      have B := B'
      clear Ka' Kb' S1' S2' S3' S4' B'
      obtain ⟨qa0, qa1, qa2, qa3⟩ := Ka.out
      obtain ⟨qb0, qb1, qb2, qb3⟩ := Kb.out
      have hza : w.heap.size < w1.heap.size := lt_of_cell (a := ⟨w.heap.size, 0, none⟩) Ka.out.1
      have hzb : w.heap.size + 1 < w1.heap.size := lt_of_cell (a := ⟨w.heap.size + 1, 0, none⟩) Kb.out.1
      go_wp2_with fail
      refine (rmul_any _ _ _ _ _ _ _ _ _ S1.out S4.out).mono ?_
      rw [e5.out]
      rintro e w2 ⟨A5, c5, rfl, hs5, hb⟩
      clear qa0 qa1 qa2 qa3 qb0 qb1 qb2 qb3
      have Ka' : Hid (Cf w2 w.heap.size n1 A1 l1.length c1 n2 A2 l2.length c2) := Cf.keep Ka.out hb
      have Kb' : Hid (Cf w2 (w.heap.size + 1) n3 A3 l3.length c3 n4 A4 l4.length c4) := Cf.keep Kb.out hb
      have S1' : Hid (Sl w2 A1 l1 c1) := Sl.below S1.out hb
      have S2' : Hid (Sl w2 A2 l2 c2) := Sl.below S2.out hb
      have S3' : Hid (Sl w2 A3 l3 c3) := Sl.below S3.out hb
      have S4' : Hid (Sl w2 A4 l4 c4) := Sl.below S4.out hb
      have B' : Hid (Below w.heap.size w w2) := below_mono B.out hb
      clear hb Ka Kb S1 S2 S3 S4 B
      have Ka := Ka'
      have Kb := Kb'
      have S1 := S1'
      have S2 := S2'
      have S3 := S3'
      have S4 := S4'
      have B := B'
      clear Ka' Kb' S1' S2' S3' S4' B'
      (try dsimp only at hs5)
      (try dsimp only)
      have S5 : Hid (Sl w2 A5 l5 c5) := hs5
      clear hs5
      obtain ⟨qa0, qa1, qa2, qa3⟩ := Ka.out
      obtain ⟨qb0, qb1, qb2, qb3⟩ := Kb.out
      replace hza : w.heap.size < w2.heap.size := lt_of_cell (a := ⟨w.heap.size, 0, none⟩) Ka.out.1
      replace hzb : w.heap.size + 1 < w2.heap.size := lt_of_cell (a := ⟨w.heap.size + 1, 0, none⟩) Kb.out.1
      have hka5 := hza
      have hkb5 := hzb
      go_wp2_with fail
      refine (rmul_any _ _ _ _ _ _ _ _ _ (S3.out.alloc _) (S2.out.alloc _)).mono ?_
      rw [e6.out]
      rintro e w3 ⟨A6, c6, rfl, hs6, hb⟩
      clear qa0 qa1 qa2 qa3 qb0 qb1 qb2 qb3
      have Ka' : Hid (Cf w3 w.heap.size n1 A1 l1.length c1 n2 A2 l2.length c2) := Cf.keep (Cf.keep Ka.out (blw1 _ _)) hb
      have Kb' : Hid (Cf w3 (w.heap.size + 1) n3 A3 l3.length c3 n4 A4 l4.length c4) := Cf.keep (Cf.keep Kb.out (blw1 _ _)) hb
      have K5' : Hid (Cw w3 w2.heap.size n5 A5 l5.length c5) := Cw.keep (Cw.fresh (by simp) _ _ _ _ _) hb
      have S1' : Hid (Sl w3 A1 l1 c1) := Sl.below (S1.out.alloc _) hb
      have S2' : Hid (Sl w3 A2 l2 c2) := Sl.below (S2.out.alloc _) hb
      have S3' : Hid (Sl w3 A3 l3 c3) := Sl.below (S3.out.alloc _) hb
      have S4' : Hid (Sl w3 A4 l4 c4) := Sl.below (S4.out.alloc _) hb
      have S5' : Hid (Sl w3 A5 l5 c5) := Sl.below (S5.out.alloc _) hb
      have B' : Hid (Below w.heap.size w w3) := below_mono (below_mono B.out (blw1 _ _)) hb
      clear hb Ka Kb S1 S2 S3 S4 S5 B
      have Ka := Ka'
      have Kb := Kb'
      have K5 := K5'
      have S1 := S1'
      have S2 := S2'
      have S3 := S3'
      have S4 := S4'
      have S5 := S5'
      have B := B'
      clear Ka' Kb' K5' S1' S2' S3' S4' S5' B'
      (try dsimp only at hs6)
      (try dsimp only)
      have S6 : Hid (Sl w3 A6 l6 c6) := hs6
      clear hs6
      obtain ⟨q50, q51⟩ := K5.out
      replace hza : w.heap.size < w3.heap.size := lt_of_cell (a := ⟨w.heap.size, 0, none⟩) Ka.out.1
      replace hzb : w.heap.size + 1 < w3.heap.size := lt_of_cell (a := ⟨w.heap.size + 1, 0, none⟩) Kb.out.1
      have hz5 : w2.heap.size < w3.heap.size := lt_of_cell (a := ⟨w2.heap.size, 0, none⟩) K5.out.1
      have hka6 := hza
      have hkb6 := hzb
      have hk56 := hz5
      go_wp2
      go_ret2
      exact ⟨rfl, (below_mono B.out (blw1 _ _))⟩
    | true =>
      obtain ⟨v5, rfl⟩ : VZ n5 l5 (x1 * y2) ∧ k5 = 0 := by
        rw [mulS_z h1 h4 (fitB_iff.1 f0)] at r5
        obtain ⟨e1, e2⟩ := Prod.mk.inj r5
        exact ⟨vz_mk e1.symm (fitB_iff.1 f0), e2.symm⟩
      cases f1 : fitB (x2 * y1) with
      | false =>
        rw [if_neg (by simp)]
        obtain rfl : k6 = 16 := by
          rw [mulS_out h3 h2, outZ_bad (fun e => by rw [fitB_iff.2 e] at f1; cases f1)] at r6
          exact (Prod.mk.inj r6).2.symm
        clear hb hb1 hb2 h1 h2 h3 h4 hp1 hp2 hs1 hs2 hs3 hs4 r5 r6 f0 f1 v5
        go_enter Try.func25, Try.ntmps25
        go_wp2_with fail
        refine (rboth_any n1 n2 n3 n4 A1 A2 A3 A4 l1 l2 l3 l4 c1 c2 c3 c4 _ ((S1.out.alloc _).alloc _) ((S2.out.alloc _).alloc _) ((S3.out.alloc _).alloc _) ((S4.out.alloc _).alloc _)).mono ?_
        rw [e1.out]
        rintro e w1 ⟨rfl, hb⟩
        have Ka' : Hid (Cf w1 w.heap.size n1 A1 l1.length c1 n2 A2 l2.length c2) := Cf.keep (Cf.keep (Cf.fresh (by simp) _ _ _ _ _ _ _ _ _) (blw1 _ _)) hb
        have Kb' : Hid (Cf w1 (w.heap.size + 1) n3 A3 l3.length c3 n4 A4 l4.length c4) := Cf.keep (Cf.fresh (by simp) _ _ _ _ _ _ _ _ _) hb
        have S1' : Hid (Sl w1 A1 l1 c1) := Sl.below ((S1.out.alloc _).alloc _) hb
        have S2' : Hid (Sl w1 A2 l2 c2) := Sl.below ((S2.out.alloc _).alloc _) hb
        have S3' : Hid (Sl w1 A3 l3 c3) := Sl.below ((S3.out.alloc _).alloc _) hb
        have S4' : Hid (Sl w1 A4 l4 c4) := Sl.below ((S4.out.alloc _).alloc _) hb
        have B' : Hid (Below w.heap.size w w1) := below_mono (below_mono (below_mono B.out (blw1 _ _)) (blw1 _ _)) hb
        clear hb S1 S2 S3 S4 B
        have Ka := Ka'
        have Kb := Kb'
        have S1 := S1'
        have S2 := S2'
        have S3 := S3'
        have S4 := S4'
        have B := B'
        clear Ka' Kb' S1' S2' S3' S4' B'
        obtain ⟨qa0, qa1, qa2, qa3⟩ := Ka.out
        obtain ⟨qb0, qb1, qb2, qb3⟩ := Kb.out
        have hza : w.heap.size < w1.heap.size := lt_of_cell (a := ⟨w.heap.size, 0, none⟩) Ka.out.1
        have hzb : w.heap.size + 1 < w1.heap.size := lt_of_cell (a := ⟨w.heap.size + 1, 0, none⟩) Kb.out.1
        go_wp2_with fail
        refine (rmul_any _ _ _ _ _ _ _ _ _ S1.out S4.out).mono ?_
        rw [e5.out]
        rintro e w2 ⟨A5, c5, rfl, hs5, hb⟩
        clear qa0 qa1 qa2 qa3 qb0 qb1 qb2 qb3
        have Ka' : Hid (Cf w2 w.heap.size n1 A1 l1.length c1 n2 A2 l2.length c2) := Cf.keep Ka.out hb
        have Kb' : Hid (Cf w2 (w.heap.size + 1) n3 A3 l3.length c3 n4 A4 l4.length c4) := Cf.keep Kb.out hb
        have S1' : Hid (Sl w2 A1 l1 c1) := Sl.below S1.out hb
        have S2' : Hid (Sl w2 A2 l2 c2) := Sl.below S2.out hb
        have S3' : Hid (Sl w2 A3 l3 c3) := Sl.below S3.out hb
        have S4' : Hid (Sl w2 A4 l4 c4) := Sl.below S4.out hb
        have B' : Hid (Below w.heap.size w w2) := below_mono B.out hb
        clear hb Ka Kb S1 S2 S3 S4 B
        have Ka := Ka'
        have Kb := Kb'
        have S1 := S1'
        have S2 := S2'
        have S3 := S3'
        have S4 := S4'
        have B := B'
        clear Ka' Kb' S1' S2' S3' S4' B'
        (try dsimp only at hs5)
        (try dsimp only)
        have S5 : Hid (Sl w2 A5 l5 c5) := hs5
        clear hs5
        obtain ⟨qa0, qa1, qa2, qa3⟩ := Ka.out
        obtain ⟨qb0, qb1, qb2, qb3⟩ := Kb.out
        replace hza : w.heap.size < w2.heap.size := lt_of_cell (a := ⟨w.heap.size, 0, none⟩) Ka.out.1
        replace hzb : w.heap.size + 1 < w2.heap.size := lt_of_cell (a := ⟨w.heap.size + 1, 0, none⟩) Kb.out.1
        have hka5 := hza
        have hkb5 := hzb
        go_wp2_with fail
        refine (rmul_any _ _ _ _ _ _ _ _ _ (S3.out.alloc _) (S2.out.alloc _)).mono ?_
        rw [e6.out]
        rintro e w3 ⟨A6, c6, rfl, hs6, hb⟩
        clear qa0 qa1 qa2 qa3 qb0 qb1 qb2 qb3
        have Ka' : Hid (Cf w3 w.heap.size n1 A1 l1.length c1 n2 A2 l2.length c2) := Cf.keep (Cf.keep Ka.out (blw1 _ _)) hb
        have Kb' : Hid (Cf w3 (w.heap.size + 1) n3 A3 l3.length c3 n4 A4 l4.length c4) := Cf.keep (Cf.keep Kb.out (blw1 _ _)) hb
        have K5' : Hid (Cw w3 w2.heap.size n5 A5 l5.length c5) := Cw.keep (Cw.fresh (by simp) _ _ _ _ _) hb
        have S1' : Hid (Sl w3 A1 l1 c1) := Sl.below (S1.out.alloc _) hb
        have S2' : Hid (Sl w3 A2 l2 c2) := Sl.below (S2.out.alloc _) hb
        have S3' : Hid (Sl w3 A3 l3 c3) := Sl.below (S3.out.alloc _) hb
        have S4' : Hid (Sl w3 A4 l4 c4) := Sl.below (S4.out.alloc _) hb
        have S5' : Hid (Sl w3 A5 l5 c5) := Sl.below (S5.out.alloc _) hb
        have B' : Hid (Below w.heap.size w w3) := below_mono (below_mono B.out (blw1 _ _)) hb
        clear hb Ka Kb S1 S2 S3 S4 S5 B
        have Ka := Ka'
        have Kb := Kb'
        have K5 := K5'
        have S1 := S1'
        have S2 := S2'
        have S3 := S3'
        have S4 := S4'
        have S5 := S5'
        have B := B'
        clear Ka' Kb' K5' S1' S2' S3' S4' S5' B'
        (try dsimp only at hs6)
        (try dsimp only)
        have S6 : Hid (Sl w3 A6 l6 c6) := hs6
        clear hs6
        obtain ⟨q50, q51⟩ := K5.out
        replace hza : w.heap.size < w3.heap.size := lt_of_cell (a := ⟨w.heap.size, 0, none⟩) Ka.out.1
        replace hzb : w.heap.size + 1 < w3.heap.size := lt_of_cell (a := ⟨w.heap.size + 1, 0, none⟩) Kb.out.1
        have hz5 : w2.heap.size < w3.heap.size := lt_of_cell (a := ⟨w2.heap.size, 0, none⟩) K5.out.1
        have hka6 := hza
        have hkb6 := hzb
        have hk56 := hz5
        go_wp2
        go_ret2
        exact ⟨rfl, (below_mono B.out (blw1 _ _))⟩
      | true =>
        obtain ⟨v6, rfl⟩ : VZ n6 l6 (x2 * y1) ∧ k6 = 0 := by
          rw [mulS_z h3 h2 (fitB_iff.1 f1)] at r6
          obtain ⟨e1, e2⟩ := Prod.mk.inj r6
          exact ⟨vz_mk e1.symm (fitB_iff.1 f1), e2.symm⟩
        rw [if_pos (by simp)]
        obtain ⟨k, hk⟩ : ∃ k, k = cmpZ (x1 * y2) (x2 * y1) := ⟨_, rfl⟩
        have e7 : Hid (cmpW n5 l5 n6 l6 = k) := by rw [Hid, cmpW_z v5 v6, hk]
        rw [← hk]
        clear hb hb1 hb2 h1 h2 h3 h4 hp1 hp2 hs1 hs2 hs3 hs4 r5 r6 f0 f1 v5 v6 hk
        go_enter Try.func25, Try.ntmps25
        go_wp2_with fail
        refine (rboth_any n1 n2 n3 n4 A1 A2 A3 A4 l1 l2 l3 l4 c1 c2 c3 c4 _ ((S1.out.alloc _).alloc _) ((S2.out.alloc _).alloc _) ((S3.out.alloc _).alloc _) ((S4.out.alloc _).alloc _)).mono ?_
        rw [e1.out]
        rintro e w1 ⟨rfl, hb⟩
        have Ka' : Hid (Cf w1 w.heap.size n1 A1 l1.length c1 n2 A2 l2.length c2) := Cf.keep (Cf.keep (Cf.fresh (by simp) _ _ _ _ _ _ _ _ _) (blw1 _ _)) hb
        have Kb' : Hid (Cf w1 (w.heap.size + 1) n3 A3 l3.length c3 n4 A4 l4.length c4) := Cf.keep (Cf.fresh (by simp) _ _ _ _ _ _ _ _ _) hb
        have S1' : Hid (Sl w1 A1 l1 c1) := Sl.below ((S1.out.alloc _).alloc _) hb
        have S2' : Hid (Sl w1 A2 l2 c2) := Sl.below ((S2.out.alloc _).alloc _) hb
        have S3' : Hid (Sl w1 A3 l3 c3) := Sl.below ((S3.out.alloc _).alloc _) hb
        have S4' : Hid (Sl w1 A4 l4 c4) := Sl.below ((S4.out.alloc _).alloc _) hb
        have B' : Hid (Below w.heap.size w w1) := below_mono (below_mono (below_mono B.out (blw1 _ _)) (blw1 _ _)) hb
        clear hb S1 S2 S3 S4 B
        have Ka := Ka'
        have Kb := Kb'
        have S1 := S1'
        have S2 := S2'
        have S3 := S3'
        have S4 := S4'
        have B := B'
        clear Ka' Kb' S1' S2' S3' S4' B'
        obtain ⟨qa0, qa1, qa2, qa3⟩ := Ka.out
        obtain ⟨qb0, qb1, qb2, qb3⟩ := Kb.out
        have hza : w.heap.size < w1.heap.size := lt_of_cell (a := ⟨w.heap.size, 0, none⟩) Ka.out.1
        have hzb : w.heap.size + 1 < w1.heap.size := lt_of_cell (a := ⟨w.heap.size + 1, 0, none⟩) Kb.out.1
        go_wp2_with fail
        refine (rmul_any _ _ _ _ _ _ _ _ _ S1.out S4.out).mono ?_
        rw [e5.out]
        rintro e w2 ⟨A5, c5, rfl, hs5, hb⟩
        clear qa0 qa1 qa2 qa3 qb0 qb1 qb2 qb3
        have Ka' : Hid (Cf w2 w.heap.size n1 A1 l1.length c1 n2 A2 l2.length c2) := Cf.keep Ka.out hb
        have Kb' : Hid (Cf w2 (w.heap.size + 1) n3 A3 l3.length c3 n4 A4 l4.length c4) := Cf.keep Kb.out hb
        have S1' : Hid (Sl w2 A1 l1 c1) := Sl.below S1.out hb
        have S2' : Hid (Sl w2 A2 l2 c2) := Sl.below S2.out hb
        have S3' : Hid (Sl w2 A3 l3 c3) := Sl.below S3.out hb
        have S4' : Hid (Sl w2 A4 l4 c4) := Sl.below S4.out hb
        have B' : Hid (Below w.heap.size w w2) := below_mono B.out hb
        clear hb Ka Kb S1 S2 S3 S4 B
        have Ka := Ka'
        have Kb := Kb'
        have S1 := S1'
        have S2 := S2'
        have S3 := S3'
        have S4 := S4'
        have B := B'
        clear Ka' Kb' S1' S2' S3' S4' B'
        (try dsimp only at hs5)
        (try dsimp only)
        have S5 : Hid (Sl w2 A5 l5 c5) := hs5
        clear hs5
        obtain ⟨qa0, qa1, qa2, qa3⟩ := Ka.out
        obtain ⟨qb0, qb1, qb2, qb3⟩ := Kb.out
        replace hza : w.heap.size < w2.heap.size := lt_of_cell (a := ⟨w.heap.size, 0, none⟩) Ka.out.1
        replace hzb : w.heap.size + 1 < w2.heap.size := lt_of_cell (a := ⟨w.heap.size + 1, 0, none⟩) Kb.out.1
        have hka5 := hza
        have hkb5 := hzb
        go_wp2_with fail
        refine (rmul_any _ _ _ _ _ _ _ _ _ (S3.out.alloc _) (S2.out.alloc _)).mono ?_
        rw [e6.out]
        rintro e w3 ⟨A6, c6, rfl, hs6, hb⟩
        clear qa0 qa1 qa2 qa3 qb0 qb1 qb2 qb3
        have Ka' : Hid (Cf w3 w.heap.size n1 A1 l1.length c1 n2 A2 l2.length c2) := Cf.keep (Cf.keep Ka.out (blw1 _ _)) hb
        have Kb' : Hid (Cf w3 (w.heap.size + 1) n3 A3 l3.length c3 n4 A4 l4.length c4) := Cf.keep (Cf.keep Kb.out (blw1 _ _)) hb
        have K5' : Hid (Cw w3 w2.heap.size n5 A5 l5.length c5) := Cw.keep (Cw.fresh (by simp) _ _ _ _ _) hb
        have S1' : Hid (Sl w3 A1 l1 c1) := Sl.below (S1.out.alloc _) hb
        have S2' : Hid (Sl w3 A2 l2 c2) := Sl.below (S2.out.alloc _) hb
        have S3' : Hid (Sl w3 A3 l3 c3) := Sl.below (S3.out.alloc _) hb
        have S4' : Hid (Sl w3 A4 l4 c4) := Sl.below (S4.out.alloc _) hb
        have S5' : Hid (Sl w3 A5 l5 c5) := Sl.below (S5.out.alloc _) hb
        have B' : Hid (Below w.heap.size w w3) := below_mono (below_mono B.out (blw1 _ _)) hb
        clear hb Ka Kb S1 S2 S3 S4 S5 B
        have Ka := Ka'
        have Kb := Kb'
        have K5 := K5'
        have S1 := S1'
        have S2 := S2'
        have S3 := S3'
        have S4 := S4'
        have S5 := S5'
        have B := B'
        clear Ka' Kb' K5' S1' S2' S3' S4' S5' B'
        (try dsimp only at hs6)
        (try dsimp only)
        have S6 : Hid (Sl w3 A6 l6 c6) := hs6
        clear hs6
        obtain ⟨q50, q51⟩ := K5.out
        replace hza : w.heap.size < w3.heap.size := lt_of_cell (a := ⟨w.heap.size, 0, none⟩) Ka.out.1
        replace hzb : w.heap.size + 1 < w3.heap.size := lt_of_cell (a := ⟨w.heap.size + 1, 0, none⟩) Kb.out.1
        have hz5 : w2.heap.size < w3.heap.size := lt_of_cell (a := ⟨w2.heap.size, 0, none⟩) K5.out.1
        have hka6 := hza
        have hkb6 := hzb
        have hk56 := hz5
        go_wp2_with fail
        refine (rcompared_any n5 n6 _ _ l5 l6 _ _ _ (S5.out.alloc _) (S6.out.alloc _)).mono ?_
        rw [e7.out]
        rintro e w4 ⟨rfl, hb⟩
        clear q50 q51
        have Ka' : Hid (Cf w4 w.heap.size n1 A1 l1.length c1 n2 A2 l2.length c2) := Cf.keep (Cf.keep Ka.out (blw1 _ _)) hb
        have Kb' : Hid (Cf w4 (w.heap.size + 1) n3 A3 l3.length c3 n4 A4 l4.length c4) := Cf.keep (Cf.keep Kb.out (blw1 _ _)) hb
        have K5' : Hid (Cw w4 w2.heap.size n5 A5 l5.length c5) := Cw.keep (Cw.keep K5.out (blw1 _ _)) hb
        have K6' : Hid (Cw w4 w3.heap.size n6 A6 l6.length c6) := Cw.keep (Cw.fresh (by simp) _ _ _ _ _) hb
        have S1' : Hid (Sl w4 A1 l1 c1) := Sl.below (S1.out.alloc _) hb
        have S2' : Hid (Sl w4 A2 l2 c2) := Sl.below (S2.out.alloc _) hb
        have S3' : Hid (Sl w4 A3 l3 c3) := Sl.below (S3.out.alloc _) hb
        have S4' : Hid (Sl w4 A4 l4 c4) := Sl.below (S4.out.alloc _) hb
        have S5' : Hid (Sl w4 A5 l5 c5) := Sl.below (S5.out.alloc _) hb
        have S6' : Hid (Sl w4 A6 l6 c6) := Sl.below (S6.out.alloc _) hb
        have B' : Hid (Below w.heap.size w w4) := below_mono (below_mono B.out (blw1 _ _)) hb
        clear hb Ka Kb K5 S1 S2 S3 S4 S5 S6 B
        have Ka := Ka'
        have Kb := Kb'
        have K5 := K5'
        have K6 := K6'
        have S1 := S1'
        have S2 := S2'
        have S3 := S3'
        have S4 := S4'
        have S5 := S5'
        have S6 := S6'
        have B := B'
        clear Ka' Kb' K5' K6' S1' S2' S3' S4' S5' S6' B'
        go_wp2
        go_ret2
        exact ⟨rfl, B.out⟩

set_option maxRecDepth 100000 in
set_option maxHeartbeats 2000000 in
theorem ftwin_any (n1 n2 : Bool) (A1 A2 : Option Addr) (l1 l2 : List Nat) (c1 c2 : Nat) (w : World) (hs1 : Sl w A1 l1 c1) (hs2 : Sl w A2 l2 c2) :
    Calls Try.prog 13 #[.agg #[.bool n1, .slice A1 l1.length c1, .bool n2, .slice A2 l2.length c2]] w (FRes1 ((n1, l1), (n2, l2)) w) := by
  have S1 := Lib.hid hs1
  have S2 := Lib.hid hs2
  have B : Hid (Below w.heap.size w w) := Below.refl _ _
  clear hs1 hs2
  go_enter Try.func13, Try.ntmps13
  go_wp2_with fail
  have KaX : Hid (Cf (((w.alloc (.cells #[.bool n1, .slice A1 l1.length c1, .bool n2, .slice A2 l2.length c2] 26)).alloc (.cells #[.bool false, .slice none 0 0, .bool false, .slice none 0 0] 26)).drew) w.heap.size n1 A1 l1.length c1 n2 A2 l2.length c2) := Cf.drew (Cf.keep (Cf.fresh (by simp) _ _ _ _ _ _ _ _ _) (blw1 _ _))
  have KoX : Hid (Cf (((w.alloc (.cells #[.bool n1, .slice A1 l1.length c1, .bool n2, .slice A2 l2.length c2] 26)).alloc (.cells #[.bool false, .slice none 0 0, .bool false, .slice none 0 0] 26)).drew) (w.heap.size + 1) false none 0 0 false none 0 0) := Cf.drew (Cf.fresh (by simp) _ _ _ _ _ _ _ _ _)
  have FoX : Hid (Ff (((w.alloc (.cells #[.bool n1, .slice A1 l1.length c1, .bool n2, .slice A2 l2.length c2] 26)).alloc (.cells #[.bool false, .slice none 0 0, .bool false, .slice none 0 0] 26)).drew) (w.heap.size + 1)) := Ff.drew (Ff.fresh (by simp) _ _)
  have S1X : Hid (Sl (((w.alloc (.cells #[.bool n1, .slice A1 l1.length c1, .bool n2, .slice A2 l2.length c2] 26)).alloc (.cells #[.bool false, .slice none 0 0, .bool false, .slice none 0 0] 26)).drew) A1 l1 c1) := Sl.drew ((S1.out.alloc _).alloc _)
  have S2X : Hid (Sl (((w.alloc (.cells #[.bool n1, .slice A1 l1.length c1, .bool n2, .slice A2 l2.length c2] 26)).alloc (.cells #[.bool false, .slice none 0 0, .bool false, .slice none 0 0] 26)).drew) A2 l2 c2) := Sl.drew ((S2.out.alloc _).alloc _)
  have BX : Hid (Below w.heap.size w (((w.alloc (.cells #[.bool n1, .slice A1 l1.length c1, .bool n2, .slice A2 l2.length c2] 26)).alloc (.cells #[.bool false, .slice none 0 0, .bool false, .slice none 0 0] 26)).drew)) := Below.drew (below_mono (below_mono B.out (blw1 _ _)) (blw1 _ _))
  clear S1 S2 B
  have J0 : Hid ((((w.alloc (.cells #[.bool n1, .slice A1 l1.length c1, .bool n2, .slice A2 l2.length c2] 26)).alloc (.cells #[.bool false, .slice none 0 0, .bool false, .slice none 0 0] 26)).drew).cell? ⟨w.heap.size, 0, none⟩ = some (.bool n1) ∧ (((w.alloc (.cells #[.bool n1, .slice A1 l1.length c1, .bool n2, .slice A2 l2.length c2] 26)).alloc (.cells #[.bool false, .slice none 0 0, .bool false, .slice none 0 0] 26)).drew).cell? ⟨w.heap.size, 1, none⟩ = some (.slice A1 l1.length c1) ∧ (((w.alloc (.cells #[.bool n1, .slice A1 l1.length c1, .bool n2, .slice A2 l2.length c2] 26)).alloc (.cells #[.bool false, .slice none 0 0, .bool false, .slice none 0 0] 26)).drew).cell? ⟨w.heap.size, 2, none⟩ = some (.bool n2) ∧ (((w.alloc (.cells #[.bool n1, .slice A1 l1.length c1, .bool n2, .slice A2 l2.length c2] 26)).alloc (.cells #[.bool false, .slice none 0 0, .bool false, .slice none 0 0] 26)).drew).cell? ⟨w.heap.size, 3, none⟩ = some (.slice A2 l2.length c2)) := KaX.out
  go_region_held3 (fun w' => w'.cell? ⟨w.heap.size, 0, none⟩ = some (.bool n1) ∧ w'.cell? ⟨w.heap.size, 1, none⟩ = some (.slice A1 l1.length c1) ∧ w'.cell? ⟨w.heap.size, 2, none⟩ = some (.bool n2) ∧ w'.cell? ⟨w.heap.size, 3, none⟩ = some (.slice A2 l2.length c2))
    (first | with_reducible exact J2.out | with_reducible exact far1 (by omega) _ J2.out | with_reducible exact far1 (by omega) _ (far1 (by omega) _ (far1 (by omega) _ (far1 (by omega) _ J2.out))) | with_reducible exact far1 (by omega) _ (far1 (by omega) _ (far1 (by omega) _ (far1 (by omega) _ (far1 (by omega) _ J2.out)))) | with_reducible exact J1.out | with_reducible exact J0.out)
    (first
      | (go_at_call 40; (with_reducible refine (twin_any n1 A1 l1 c1 _ S1X.out).mono ?_); rintro e v1 ⟨A3, c3, rfl, hs3, hb⟩; (try dsimp only at hs3); (try dsimp only); have S3v1 : Hid (Sl v1 A3 l1 c3) := hs3; have S2v1 := Lib.hid (S2X.out.below hb); have Fov1 := Lib.hid (Ff.keep FoX.out KoX.out hb); have Kov1 := Lib.hid (KoX.out.keep hb); have Kav1 := Lib.hid (KaX.out.keep hb); have J1 : Hid (v1.cell? ⟨w.heap.size, 0, none⟩ = some (.bool n1) ∧ v1.cell? ⟨w.heap.size, 1, none⟩ = some (.slice A1 l1.length c1) ∧ v1.cell? ⟨w.heap.size, 2, none⟩ = some (.bool n2) ∧ v1.cell? ⟨w.heap.size, 3, none⟩ = some (.slice A2 l2.length c2)) := Kav1.out; have Bv1 := Lib.hid (below_mono BX.out hb); clear hb hs3)
      | (go_at_call 40; (with_reducible refine (twin_any n2 A2 l2 c2 _ S2v1.out).mono ?_); rintro e v2 ⟨A4, c4, rfl, hs4, hb⟩; (try dsimp only at hs4); (try dsimp only); have S4v2 : Hid (Sl v2 A4 l2 c4) := hs4; have S3v2 := Lib.hid (S3v1.out.below hb); have Fov2 := Lib.hid (Ff.keep Fov1.out Kov1.out hb); have Kov2 := Lib.hid (Kov1.out.keep hb); have Kav2 := Lib.hid (Kav1.out.keep hb); have J2 : Hid (v2.cell? ⟨w.heap.size, 0, none⟩ = some (.bool n1) ∧ v2.cell? ⟨w.heap.size, 1, none⟩ = some (.slice A1 l1.length c1) ∧ v2.cell? ⟨w.heap.size, 2, none⟩ = some (.bool n2) ∧ v2.cell? ⟨w.heap.size, 3, none⟩ = some (.slice A2 l2.length c2)) := Kav2.out; have Bv2 := Lib.hid (below_mono Bv1.out hb); obtain ⟨r0, r1, r2, r3⟩ := Kov2.out; obtain ⟨g0, g1, g2, g3⟩ := Fov2.out; clear hb hs4))
  go_wp2
  exact bodyPost_ret (v := .agg #[.bool n1, .slice A3 l1.length c3, .bool n2, .slice A4 l2.length c4]) (by simp [results, Try.results13, go_sem, r0, r1, r2, r3]) rfl (fres1_store (r := ((n1, l1), (n2, l2))) S3v2.out S4v2.out Kov2.out Bv2.out (by omega) _ _ _ _)

end Go.Proofs.Ythlfidbhldbedaa
/- Walk: frac.Cmp. -/
namespace Go.Proofs.Ythlfidbhldbedaa
open Go.RowKit
attribute [local go_sem ↓] Go.wp_at_zero Go.wp_at_succ
/-- Two int64's handed back. -/
def IRes (a b : Int) (w : World) : Ending → World → Prop := fun e w' => e = .returned (.tuple #[.int .i64 a, .int .i64 b]) ∧ Below w.heap.size w w'

theorem ires_fall {a b : Int} {w w2 : World} {g : Nat} (hb : Below w.heap.size w w2) (hg : w.heap.size ≤ g) (v : Value) (o : Obj) : IRes a b w (.returned (.tuple #[.int .i64 a, .int .i64 b])) ((w2.setCell ⟨g, 0, none⟩ v).alloc o) :=
  ⟨rfl, below_mono (hb.setCell (p := ⟨g, 0, none⟩) hg v) (blw1 _ _)⟩

theorem far8 {w : World} {g ga gb j : Nat} {a0 a1 a2 a3 b0 b1 b2 b3 : Value} (h1 : ga ≠ g) (h2 : gb ≠ g) (x : Value) (h : w.cell? ⟨ga, 0, none⟩ = some a0 ∧ w.cell? ⟨ga, 1, none⟩ = some a1 ∧ w.cell? ⟨ga, 2, none⟩ = some a2 ∧ w.cell? ⟨ga, 3, none⟩ = some a3 ∧ w.cell? ⟨gb, 0, none⟩ = some b0 ∧ w.cell? ⟨gb, 1, none⟩ = some b1 ∧ w.cell? ⟨gb, 2, none⟩ = some b2 ∧ w.cell? ⟨gb, 3, none⟩ = some b3) :
    (w.setCell ⟨g, j, none⟩ x).cell? ⟨ga, 0, none⟩ = some a0 ∧ (w.setCell ⟨g, j, none⟩ x).cell? ⟨ga, 1, none⟩ = some a1 ∧ (w.setCell ⟨g, j, none⟩ x).cell? ⟨ga, 2, none⟩ = some a2 ∧ (w.setCell ⟨g, j, none⟩ x).cell? ⟨ga, 3, none⟩ = some a3 ∧ (w.setCell ⟨g, j, none⟩ x).cell? ⟨gb, 0, none⟩ = some b0 ∧ (w.setCell ⟨g, j, none⟩ x).cell? ⟨gb, 1, none⟩ = some b1 ∧ (w.setCell ⟨g, j, none⟩ x).cell? ⟨gb, 2, none⟩ = some b2 ∧ (w.setCell ⟨g, j, none⟩ x).cell? ⟨gb, 3, none⟩ = some b3 := by
  obtain ⟨p0, p1, p2, p3, q0, q1, q2, q3⟩ := h
  exact ⟨(cell_far h1 x).trans p0, (cell_far h1 x).trans p1, (cell_far h1 x).trans p2, (cell_far h1 x).trans p3, (cell_far h2 x).trans q0, (cell_far h2 x).trans q1, (cell_far h2 x).trans q2, (cell_far h2 x).trans q3⟩

/-- What holds where a region of Cmp panics. -/
def PQ (d : List Deferred) (E : Nat) (w : World) : Exit → Act → World → Prop := fun e a w' =>
  ∃ c, e = .panic c ∧ c = [{ v := .iface 84 (.agg #[.int .i64 16]), recovered := false }] ∧ a.defers = d ∧ a.tmps.getD 4 undef = .int .i64 0 ∧ a.tmps.getD 5 undef = .pointer (some ⟨E, 0, none⟩) ∧ C1 w' E (.int .i64 0) ∧ Below w.heap.size w w'

theorem pq_put {d : List Deferred} {E : Nat} {w w' : World} {c : List PanicEntry} {a : Act} {i : Nat} {v : Value} (hi : i ≠ 4) (hj : i ≠ 5) (h : PQ d E w (.panic c) (a.put (some i) v) w') : PQ d E w (.panic c) a w' := by
  obtain ⟨c', e, h1, h2, h3, h6, h4, h5⟩ := h
  refine ⟨c', e, h1, h2, ?_, ?_, h4, h5⟩
  · simp only [Act.put] at h3
    rw [← h3]
    simp [Array.getD_eq_getD_getElem?, Array.getElem?_setIfInBounds_ne hi]
  · simp only [Act.put] at h6
    rw [← h6]
    simp [Array.getD_eq_getD_getElem?, Array.getElem?_setIfInBounds_ne hj]

set_option maxRecDepth 100000 in
set_option maxHeartbeats 4000000 in
theorem fcmp_any (n1 n2 n3 n4 : Bool) (A1 A2 A3 A4 : Option Addr) (l1 l2 l3 l4 : List Nat) (c1 c2 c3 c4 : Nat) (w : World) (hs1 : Sl w A1 l1 c1) (hs2 : Sl w A2 l2 c2) (hs3 : Sl w A3 l3 c3) (hs4 : Sl w A4 l4 c4) :
    Calls Try.prog 24 #[.agg #[.bool n1, .slice A1 l1.length c1, .bool n2, .slice A2 l2.length c2], .agg #[.bool n3, .slice A3 l3.length c3, .bool n4, .slice A4 l4.length c4]] w (IRes (cmpF n1 l1 n2 l2 n3 l3 n4 l4).1 (cmpF n1 l1 n2 l2 n3 l3 n4 l4).2 w) := by
  have S1 := Lib.hid hs1
  have S2 := Lib.hid hs2
  have S3 := Lib.hid hs3
  have S4 := Lib.hid hs4
  have B : Hid (Below w.heap.size w w) := Below.refl _ _
  cases hb1 : badF n1 l1 n2 l2 with
  | true =>
    have hr : cmpF n1 l1 n2 l2 n3 l3 n4 l4 = (0, 8) := by unfold cmpF; rw [hb1]; rfl
    have e1 : Hid (chkF n1 l1 n2 l2 = 8) := by unfold chkF; rw [hb1]; rfl
    rw [hr]
    clear hs1 hs2 hs3 hs4 hr hb1
    go_enter_defers Try.func24, Try.ntmps24
    go_wp2_with fail
    refine (fcheck_any n1 n2 A1 A2 l1 l2 c1 c2 _ (((S1.out.alloc _).alloc _).alloc _) (((S2.out.alloc _).alloc _).alloc _)).mono ?_
    rw [e1.out]
    rintro e w1 ⟨rfl, hb⟩
    have Ka' : Hid (Cf w1 w.heap.size n1 A1 l1.length c1 n2 A2 l2.length c2) := Cf.keep (Cf.keep (Cf.keep (Cf.fresh (by simp) _ _ _ _ _ _ _ _ _) (blw1 _ _)) (blw1 _ _)) hb
    have Kb' : Hid (Cf w1 (w.heap.size + 1) n3 A3 l3.length c3 n4 A4 l4.length c4) := Cf.keep (Cf.keep (Cf.fresh (by simp) _ _ _ _ _ _ _ _ _) (blw1 _ _)) hb
    have Ke' : Hid (C1 w1 (w.heap.size + 1 + 1) (.int .i64 0)) := C1.keep (C1.fresh (by simp) _ _) hb
    have S1' : Hid (Sl w1 A1 l1 c1) := Sl.below (((S1.out.alloc _).alloc _).alloc _) hb
    have S2' : Hid (Sl w1 A2 l2 c2) := Sl.below (((S2.out.alloc _).alloc _).alloc _) hb
    have S3' : Hid (Sl w1 A3 l3 c3) := Sl.below (((S3.out.alloc _).alloc _).alloc _) hb
    have S4' : Hid (Sl w1 A4 l4 c4) := Sl.below (((S4.out.alloc _).alloc _).alloc _) hb
    have B' : Hid (Below w.heap.size w w1) := below_mono (below_mono (below_mono (below_mono B.out (blw1 _ _)) (blw1 _ _)) (blw1 _ _)) hb
    clear hb S1 S2 S3 S4 B
    have Ka := Ka'
    have Kb := Kb'
    have Ke := Ke'
    have S1 := S1'
    have S2 := S2'
    have S3 := S3'
    have S4 := S4'
    have B := B'
    clear Ka' Kb' Ke' S1' S2' S3' S4' B'
    obtain ⟨qa0, qa1, qa2, qa3⟩ := Ka.out
    obtain ⟨qb0, qb1, qb2, qb3⟩ := Kb.out
    have hza : w.heap.size < w1.heap.size := lt_of_cell (a := ⟨w.heap.size, 0, none⟩) Ka.out.1
    have hzb : w.heap.size + 1 < w1.heap.size := lt_of_cell (a := ⟨w.heap.size + 1, 0, none⟩) Kb.out.1
    have hze : w.heap.size + 1 + 1 < w1.heap.size := lt_of_cell (a := ⟨w.heap.size + 1 + 1, 0, none⟩) Ke.out.1
    go_wp2_with fail
    refine (want_bad 8 (by decide) _).mono ?_
    rintro e w2 ⟨rfl, hb⟩
    clear qa0 qa1 qa2 qa3 qb0 qb1 qb2 qb3
    have Ka' : Hid (Cf w2 w.heap.size n1 A1 l1.length c1 n2 A2 l2.length c2) := Cf.keep Ka.out hb
    have Kb' : Hid (Cf w2 (w.heap.size + 1) n3 A3 l3.length c3 n4 A4 l4.length c4) := Cf.keep Kb.out hb
    have Ke' : Hid (C1 w2 (w.heap.size + 1 + 1) (.int .i64 0)) := C1.keep Ke.out hb
    have S1' : Hid (Sl w2 A1 l1 c1) := Sl.below S1.out hb
    have S2' : Hid (Sl w2 A2 l2 c2) := Sl.below S2.out hb
    have S3' : Hid (Sl w2 A3 l3 c3) := Sl.below S3.out hb
    have S4' : Hid (Sl w2 A4 l4 c4) := Sl.below S4.out hb
    have B' : Hid (Below w.heap.size w w2) := below_mono B.out hb
    clear hb Ka Kb Ke S1 S2 S3 S4 B
    have Ka := Ka'
    have Kb := Kb'
    have Ke := Ke'
    have S1 := S1'
    have S2 := S2'
    have S3 := S3'
    have S4 := S4'
    have B := B'
    clear Ka' Kb' Ke' S1' S2' S3' S4' B'
    go_wp2_with fail
    refine leaves_cons (f := 28) (args := #[.pointer (some ⟨w.heap.size + 1 + 1, 0, none⟩)]) (by simp) (by simp [go_sem]) ?_
    refine (catch_fall (w.heap.size + 1 + 1) 0 8 [] _ Ke.out).mono ?_
    rintro e u' w'' ⟨rfl, rfl, ob, rfl⟩
    have hze3 : w.heap.size + 1 + 1 < w2.heap.size := lt_of_cell (a := ⟨w.heap.size + 1 + 1, 0, none⟩) Ke.out.1
    simp [Leaves, settle, results, Try.results24, go_sem, hze3, Ke.out.1]
    exact ires_fall B.out (by omega) _ _
  | false =>
    have e1 : Hid (chkF n1 l1 n2 l2 = 0) := by unfold chkF; rw [hb1]; rfl
    cases hb2 : badF n3 l3 n4 l4 with
    | true =>
      have hr : cmpF n1 l1 n2 l2 n3 l3 n4 l4 = (0, 8) := by unfold cmpF; rw [hb1, hb2]; rfl
      have e2 : Hid (chkF n3 l3 n4 l4 = 8) := by unfold chkF; rw [hb2]; rfl
      rw [hr]
      clear hs1 hs2 hs3 hs4 hr hb1 hb2
      go_enter_defers Try.func24, Try.ntmps24
      go_wp2_with fail
      refine (fcheck_any n1 n2 A1 A2 l1 l2 c1 c2 _ (((S1.out.alloc _).alloc _).alloc _) (((S2.out.alloc _).alloc _).alloc _)).mono ?_
      rw [e1.out]
      rintro e w1 ⟨rfl, hb⟩
      have Ka' : Hid (Cf w1 w.heap.size n1 A1 l1.length c1 n2 A2 l2.length c2) := Cf.keep (Cf.keep (Cf.keep (Cf.fresh (by simp) _ _ _ _ _ _ _ _ _) (blw1 _ _)) (blw1 _ _)) hb
      have Kb' : Hid (Cf w1 (w.heap.size + 1) n3 A3 l3.length c3 n4 A4 l4.length c4) := Cf.keep (Cf.keep (Cf.fresh (by simp) _ _ _ _ _ _ _ _ _) (blw1 _ _)) hb
      have Ke' : Hid (C1 w1 (w.heap.size + 1 + 1) (.int .i64 0)) := C1.keep (C1.fresh (by simp) _ _) hb
      have S1' : Hid (Sl w1 A1 l1 c1) := Sl.below (((S1.out.alloc _).alloc _).alloc _) hb
      have S2' : Hid (Sl w1 A2 l2 c2) := Sl.below (((S2.out.alloc _).alloc _).alloc _) hb
      have S3' : Hid (Sl w1 A3 l3 c3) := Sl.below (((S3.out.alloc _).alloc _).alloc _) hb
      have S4' : Hid (Sl w1 A4 l4 c4) := Sl.below (((S4.out.alloc _).alloc _).alloc _) hb
      have B' : Hid (Below w.heap.size w w1) := below_mono (below_mono (below_mono (below_mono B.out (blw1 _ _)) (blw1 _ _)) (blw1 _ _)) hb
      clear hb S1 S2 S3 S4 B
      have Ka := Ka'
      have Kb := Kb'
      have Ke := Ke'
      have S1 := S1'
      have S2 := S2'
      have S3 := S3'
      have S4 := S4'
      have B := B'
      clear Ka' Kb' Ke' S1' S2' S3' S4' B'
      obtain ⟨qa0, qa1, qa2, qa3⟩ := Ka.out
      obtain ⟨qb0, qb1, qb2, qb3⟩ := Kb.out
      have hza : w.heap.size < w1.heap.size := lt_of_cell (a := ⟨w.heap.size, 0, none⟩) Ka.out.1
      have hzb : w.heap.size + 1 < w1.heap.size := lt_of_cell (a := ⟨w.heap.size + 1, 0, none⟩) Kb.out.1
      have hze : w.heap.size + 1 + 1 < w1.heap.size := lt_of_cell (a := ⟨w.heap.size + 1 + 1, 0, none⟩) Ke.out.1
      go_wp2_with fail
      refine (want_ok _).mono ?_
      rintro e w2 ⟨rfl, hb⟩
      clear qa0 qa1 qa2 qa3 qb0 qb1 qb2 qb3
      have Ka' : Hid (Cf w2 w.heap.size n1 A1 l1.length c1 n2 A2 l2.length c2) := Cf.keep Ka.out hb
      have Kb' : Hid (Cf w2 (w.heap.size + 1) n3 A3 l3.length c3 n4 A4 l4.length c4) := Cf.keep Kb.out hb
      have Ke' : Hid (C1 w2 (w.heap.size + 1 + 1) (.int .i64 0)) := C1.keep Ke.out hb
      have S1' : Hid (Sl w2 A1 l1 c1) := Sl.below S1.out hb
      have S2' : Hid (Sl w2 A2 l2 c2) := Sl.below S2.out hb
      have S3' : Hid (Sl w2 A3 l3 c3) := Sl.below S3.out hb
      have S4' : Hid (Sl w2 A4 l4 c4) := Sl.below S4.out hb
      have B' : Hid (Below w.heap.size w w2) := below_mono B.out hb
      clear hb Ka Kb Ke S1 S2 S3 S4 B
      have Ka := Ka'
      have Kb := Kb'
      have Ke := Ke'
      have S1 := S1'
      have S2 := S2'
      have S3 := S3'
      have S4 := S4'
      have B := B'
      clear Ka' Kb' Ke' S1' S2' S3' S4' B'
      obtain ⟨qa0, qa1, qa2, qa3⟩ := Ka.out
      obtain ⟨qb0, qb1, qb2, qb3⟩ := Kb.out
      replace hza : w.heap.size < w2.heap.size := lt_of_cell (a := ⟨w.heap.size, 0, none⟩) Ka.out.1
      replace hzb : w.heap.size + 1 < w2.heap.size := lt_of_cell (a := ⟨w.heap.size + 1, 0, none⟩) Kb.out.1
      replace hze : w.heap.size + 1 + 1 < w2.heap.size := lt_of_cell (a := ⟨w.heap.size + 1 + 1, 0, none⟩) Ke.out.1
      go_wp2_with fail
      refine (fcheck_any n3 n4 A3 A4 l3 l4 c3 c4 _ S3.out S4.out).mono ?_
      rw [e2.out]
      rintro e w3 ⟨rfl, hb⟩
      clear qa0 qa1 qa2 qa3 qb0 qb1 qb2 qb3
      have Ka' : Hid (Cf w3 w.heap.size n1 A1 l1.length c1 n2 A2 l2.length c2) := Cf.keep Ka.out hb
      have Kb' : Hid (Cf w3 (w.heap.size + 1) n3 A3 l3.length c3 n4 A4 l4.length c4) := Cf.keep Kb.out hb
      have Ke' : Hid (C1 w3 (w.heap.size + 1 + 1) (.int .i64 0)) := C1.keep Ke.out hb
      have S1' : Hid (Sl w3 A1 l1 c1) := Sl.below S1.out hb
      have S2' : Hid (Sl w3 A2 l2 c2) := Sl.below S2.out hb
      have S3' : Hid (Sl w3 A3 l3 c3) := Sl.below S3.out hb
      have S4' : Hid (Sl w3 A4 l4 c4) := Sl.below S4.out hb
      have B' : Hid (Below w.heap.size w w3) := below_mono B.out hb
      clear hb Ka Kb Ke S1 S2 S3 S4 B
      have Ka := Ka'
      have Kb := Kb'
      have Ke := Ke'
      have S1 := S1'
      have S2 := S2'
      have S3 := S3'
      have S4 := S4'
      have B := B'
      clear Ka' Kb' Ke' S1' S2' S3' S4' B'
      obtain ⟨qa0, qa1, qa2, qa3⟩ := Ka.out
      obtain ⟨qb0, qb1, qb2, qb3⟩ := Kb.out
      replace hza : w.heap.size < w3.heap.size := lt_of_cell (a := ⟨w.heap.size, 0, none⟩) Ka.out.1
      replace hzb : w.heap.size + 1 < w3.heap.size := lt_of_cell (a := ⟨w.heap.size + 1, 0, none⟩) Kb.out.1
      replace hze : w.heap.size + 1 + 1 < w3.heap.size := lt_of_cell (a := ⟨w.heap.size + 1 + 1, 0, none⟩) Ke.out.1
      go_wp2_with fail
      refine (want_bad 8 (by decide) _).mono ?_
      rintro e w4 ⟨rfl, hb⟩
      clear qa0 qa1 qa2 qa3 qb0 qb1 qb2 qb3
      have Ka' : Hid (Cf w4 w.heap.size n1 A1 l1.length c1 n2 A2 l2.length c2) := Cf.keep Ka.out hb
      have Kb' : Hid (Cf w4 (w.heap.size + 1) n3 A3 l3.length c3 n4 A4 l4.length c4) := Cf.keep Kb.out hb
      have Ke' : Hid (C1 w4 (w.heap.size + 1 + 1) (.int .i64 0)) := C1.keep Ke.out hb
      have S1' : Hid (Sl w4 A1 l1 c1) := Sl.below S1.out hb
      have S2' : Hid (Sl w4 A2 l2 c2) := Sl.below S2.out hb
      have S3' : Hid (Sl w4 A3 l3 c3) := Sl.below S3.out hb
      have S4' : Hid (Sl w4 A4 l4 c4) := Sl.below S4.out hb
      have B' : Hid (Below w.heap.size w w4) := below_mono B.out hb
      clear hb Ka Kb Ke S1 S2 S3 S4 B
      have Ka := Ka'
      have Kb := Kb'
      have Ke := Ke'
      have S1 := S1'
      have S2 := S2'
      have S3 := S3'
      have S4 := S4'
      have B := B'
      clear Ka' Kb' Ke' S1' S2' S3' S4' B'
      go_wp2_with fail
      refine leaves_cons (f := 28) (args := #[.pointer (some ⟨w.heap.size + 1 + 1, 0, none⟩)]) (by simp) (by simp [go_sem]) ?_
      refine (catch_fall (w.heap.size + 1 + 1) 0 8 [] _ Ke.out).mono ?_
      rintro e u' w'' ⟨rfl, rfl, ob, rfl⟩
      have hze3 : w.heap.size + 1 + 1 < w4.heap.size := lt_of_cell (a := ⟨w.heap.size + 1 + 1, 0, none⟩) Ke.out.1
      simp [Leaves, settle, results, Try.results24, go_sem, hze3, Ke.out.1]
      exact ires_fall B.out (by omega) _ _
    | false =>
      have e2 : Hid (chkF n3 l3 n4 l4 = 0) := by unfold chkF; rw [hb2]; rfl
      have va := vf_of hs1.lim hs2.lim hb1
      have vb := vf_of hs3.lim hs4.lim hb2
      rw [cmpF_good va vb]
      obtain ⟨h1, h2, _, _⟩ := va
      obtain ⟨h3, h4, _, _⟩ := vb
      generalize zv n1 l1 = x1 at *
      generalize zv n2 l2 = y1 at *
      generalize zv n3 l3 = x2 at *
      generalize zv n4 l4 = y2 at *
      unfold cmpV
      cases f0 : fitB (x1 * y2) with
      | false =>
        rw [if_neg (by simp)]
        have H0 : Hid (∀ W, Sl W A1 l1 c1 → Sl W A2 l2 c2 → Sl W A3 l3 c3 → Sl W A4 l4 c4 → Calls Try.prog 45 #[.agg #[.bool n1, .slice A1 l1.length c1, .bool n2, .slice A2 l2.length c2], .agg #[.bool n3, .slice A3 l3.length c3, .bool n4, .slice A4 l4.length c4]] W (Falls 16 W)) := fun W a b c d => cross_bad n1 n2 n3 n4 A1 A2 A3 A4 l1 l2 l3 l4 c1 c2 c3 c4 x1 y2 h1 h4 (fun e => by rw [fitB_iff.2 e] at f0; cases f0) W a b c d
        clear hs1 hs2 hs3 hs4 hb1 hb2 h1 h2 h3 h4 f0
        go_enter_defers Try.func24, Try.ntmps24
        go_wp2_with fail
        refine (fcheck_any n1 n2 A1 A2 l1 l2 c1 c2 _ (((S1.out.alloc _).alloc _).alloc _) (((S2.out.alloc _).alloc _).alloc _)).mono ?_
        rw [e1.out]
        rintro e w1 ⟨rfl, hb⟩
        have Ka' : Hid (Cf w1 w.heap.size n1 A1 l1.length c1 n2 A2 l2.length c2) := Cf.keep (Cf.keep (Cf.keep (Cf.fresh (by simp) _ _ _ _ _ _ _ _ _) (blw1 _ _)) (blw1 _ _)) hb
        have Kb' : Hid (Cf w1 (w.heap.size + 1) n3 A3 l3.length c3 n4 A4 l4.length c4) := Cf.keep (Cf.keep (Cf.fresh (by simp) _ _ _ _ _ _ _ _ _) (blw1 _ _)) hb
        have Ke' : Hid (C1 w1 (w.heap.size + 1 + 1) (.int .i64 0)) := C1.keep (C1.fresh (by simp) _ _) hb
        have S1' : Hid (Sl w1 A1 l1 c1) := Sl.below (((S1.out.alloc _).alloc _).alloc _) hb
        have S2' : Hid (Sl w1 A2 l2 c2) := Sl.below (((S2.out.alloc _).alloc _).alloc _) hb
        have S3' : Hid (Sl w1 A3 l3 c3) := Sl.below (((S3.out.alloc _).alloc _).alloc _) hb
        have S4' : Hid (Sl w1 A4 l4 c4) := Sl.below (((S4.out.alloc _).alloc _).alloc _) hb
        have B' : Hid (Below w.heap.size w w1) := below_mono (below_mono (below_mono (below_mono B.out (blw1 _ _)) (blw1 _ _)) (blw1 _ _)) hb
        clear hb S1 S2 S3 S4 B
        have Ka := Ka'
        have Kb := Kb'
        have Ke := Ke'
        have S1 := S1'
        have S2 := S2'
        have S3 := S3'
        have S4 := S4'
        have B := B'
        clear Ka' Kb' Ke' S1' S2' S3' S4' B'
        obtain ⟨qa0, qa1, qa2, qa3⟩ := Ka.out
        obtain ⟨qb0, qb1, qb2, qb3⟩ := Kb.out
        have hza : w.heap.size < w1.heap.size := lt_of_cell (a := ⟨w.heap.size, 0, none⟩) Ka.out.1
        have hzb : w.heap.size + 1 < w1.heap.size := lt_of_cell (a := ⟨w.heap.size + 1, 0, none⟩) Kb.out.1
        have hze : w.heap.size + 1 + 1 < w1.heap.size := lt_of_cell (a := ⟨w.heap.size + 1 + 1, 0, none⟩) Ke.out.1
        go_wp2_with fail
        refine (want_ok _).mono ?_
        rintro e w2 ⟨rfl, hb⟩
        clear qa0 qa1 qa2 qa3 qb0 qb1 qb2 qb3
        have Ka' : Hid (Cf w2 w.heap.size n1 A1 l1.length c1 n2 A2 l2.length c2) := Cf.keep Ka.out hb
        have Kb' : Hid (Cf w2 (w.heap.size + 1) n3 A3 l3.length c3 n4 A4 l4.length c4) := Cf.keep Kb.out hb
        have Ke' : Hid (C1 w2 (w.heap.size + 1 + 1) (.int .i64 0)) := C1.keep Ke.out hb
        have S1' : Hid (Sl w2 A1 l1 c1) := Sl.below S1.out hb
        have S2' : Hid (Sl w2 A2 l2 c2) := Sl.below S2.out hb
        have S3' : Hid (Sl w2 A3 l3 c3) := Sl.below S3.out hb
        have S4' : Hid (Sl w2 A4 l4 c4) := Sl.below S4.out hb
        have B' : Hid (Below w.heap.size w w2) := below_mono B.out hb
        clear hb Ka Kb Ke S1 S2 S3 S4 B
        have Ka := Ka'
        have Kb := Kb'
        have Ke := Ke'
        have S1 := S1'
        have S2 := S2'
        have S3 := S3'
        have S4 := S4'
        have B := B'
        clear Ka' Kb' Ke' S1' S2' S3' S4' B'
        obtain ⟨qa0, qa1, qa2, qa3⟩ := Ka.out
        obtain ⟨qb0, qb1, qb2, qb3⟩ := Kb.out
        replace hza : w.heap.size < w2.heap.size := lt_of_cell (a := ⟨w.heap.size, 0, none⟩) Ka.out.1
        replace hzb : w.heap.size + 1 < w2.heap.size := lt_of_cell (a := ⟨w.heap.size + 1, 0, none⟩) Kb.out.1
        replace hze : w.heap.size + 1 + 1 < w2.heap.size := lt_of_cell (a := ⟨w.heap.size + 1 + 1, 0, none⟩) Ke.out.1
        go_wp2_with fail
        refine (fcheck_any n3 n4 A3 A4 l3 l4 c3 c4 _ S3.out S4.out).mono ?_
        rw [e2.out]
        rintro e w3 ⟨rfl, hb⟩
        clear qa0 qa1 qa2 qa3 qb0 qb1 qb2 qb3
        have Ka' : Hid (Cf w3 w.heap.size n1 A1 l1.length c1 n2 A2 l2.length c2) := Cf.keep Ka.out hb
        have Kb' : Hid (Cf w3 (w.heap.size + 1) n3 A3 l3.length c3 n4 A4 l4.length c4) := Cf.keep Kb.out hb
        have Ke' : Hid (C1 w3 (w.heap.size + 1 + 1) (.int .i64 0)) := C1.keep Ke.out hb
        have S1' : Hid (Sl w3 A1 l1 c1) := Sl.below S1.out hb
        have S2' : Hid (Sl w3 A2 l2 c2) := Sl.below S2.out hb
        have S3' : Hid (Sl w3 A3 l3 c3) := Sl.below S3.out hb
        have S4' : Hid (Sl w3 A4 l4 c4) := Sl.below S4.out hb
        have B' : Hid (Below w.heap.size w w3) := below_mono B.out hb
        clear hb Ka Kb Ke S1 S2 S3 S4 B
        have Ka := Ka'
        have Kb := Kb'
        have Ke := Ke'
        have S1 := S1'
        have S2 := S2'
        have S3 := S3'
        have S4 := S4'
        have B := B'
        clear Ka' Kb' Ke' S1' S2' S3' S4' B'
        obtain ⟨qa0, qa1, qa2, qa3⟩ := Ka.out
        obtain ⟨qb0, qb1, qb2, qb3⟩ := Kb.out
        replace hza : w.heap.size < w3.heap.size := lt_of_cell (a := ⟨w.heap.size, 0, none⟩) Ka.out.1
        replace hzb : w.heap.size + 1 < w3.heap.size := lt_of_cell (a := ⟨w.heap.size + 1, 0, none⟩) Kb.out.1
        replace hze : w.heap.size + 1 + 1 < w3.heap.size := lt_of_cell (a := ⟨w.heap.size + 1 + 1, 0, none⟩) Ke.out.1
        go_wp2_with fail
        refine (want_ok _).mono ?_
        rintro e w4 ⟨rfl, hb⟩
        clear qa0 qa1 qa2 qa3 qb0 qb1 qb2 qb3
        have Ka' : Hid (Cf w4 w.heap.size n1 A1 l1.length c1 n2 A2 l2.length c2) := Cf.keep Ka.out hb
        have Kb' : Hid (Cf w4 (w.heap.size + 1) n3 A3 l3.length c3 n4 A4 l4.length c4) := Cf.keep Kb.out hb
        have Ke' : Hid (C1 w4 (w.heap.size + 1 + 1) (.int .i64 0)) := C1.keep Ke.out hb
        have S1' : Hid (Sl w4 A1 l1 c1) := Sl.below S1.out hb
        have S2' : Hid (Sl w4 A2 l2 c2) := Sl.below S2.out hb
        have S3' : Hid (Sl w4 A3 l3 c3) := Sl.below S3.out hb
        have S4' : Hid (Sl w4 A4 l4 c4) := Sl.below S4.out hb
        have B' : Hid (Below w.heap.size w w4) := below_mono B.out hb
        clear hb Ka Kb Ke S1 S2 S3 S4 B
        have Ka := Ka'
        have Kb := Kb'
        have Ke := Ke'
        have S1 := S1'
        have S2 := S2'
        have S3 := S3'
        have S4 := S4'
        have B := B'
        clear Ka' Kb' Ke' S1' S2' S3' S4' B'
        obtain ⟨qa0, qa1, qa2, qa3⟩ := Ka.out
        obtain ⟨qb0, qb1, qb2, qb3⟩ := Kb.out
        replace hza : w.heap.size < w4.heap.size := lt_of_cell (a := ⟨w.heap.size, 0, none⟩) Ka.out.1
        replace hzb : w.heap.size + 1 < w4.heap.size := lt_of_cell (a := ⟨w.heap.size + 1, 0, none⟩) Kb.out.1
        replace hze : w.heap.size + 1 + 1 < w4.heap.size := lt_of_cell (a := ⟨w.heap.size + 1 + 1, 0, none⟩) Ke.out.1
        go_wp2_with fail
        clear qa0 qa1 qa2 qa3 qb0 qb1 qb2 qb3
        have KaX : Hid (Cf w4.drew w.heap.size n1 A1 l1.length c1 n2 A2 l2.length c2) := Cf.drew Ka.out
        have KbX : Hid (Cf w4.drew (w.heap.size + 1) n3 A3 l3.length c3 n4 A4 l4.length c4) := Cf.drew Kb.out
        have KeX : Hid (C1 w4.drew (w.heap.size + 1 + 1) (.int .i64 0)) := Ke.out
        have S1X : Hid (Sl w4.drew A1 l1 c1) := Sl.drew S1.out
        have S2X : Hid (Sl w4.drew A2 l2 c2) := Sl.drew S2.out
        have S3X : Hid (Sl w4.drew A3 l3 c3) := Sl.drew S3.out
        have S4X : Hid (Sl w4.drew A4 l4 c4) := Sl.drew S4.out
        have BX : Hid (Below w.heap.size w w4.drew) := Below.drew B.out
        clear S1 S2 S3 S4 B Ka Kb Ke hza hzb hze
        have J0 : Hid (w4.drew.cell? ⟨w.heap.size, 0, none⟩ = some (.bool n1) ∧ w4.drew.cell? ⟨w.heap.size, 1, none⟩ = some (.slice A1 l1.length c1) ∧ w4.drew.cell? ⟨w.heap.size, 2, none⟩ = some (.bool n2) ∧ w4.drew.cell? ⟨w.heap.size, 3, none⟩ = some (.slice A2 l2.length c2) ∧ w4.drew.cell? ⟨w.heap.size + 1, 0, none⟩ = some (.bool n3) ∧ w4.drew.cell? ⟨w.heap.size + 1, 1, none⟩ = some (.slice A3 l3.length c3) ∧ w4.drew.cell? ⟨w.heap.size + 1, 2, none⟩ = some (.bool n4) ∧ w4.drew.cell? ⟨w.heap.size + 1, 3, none⟩ = some (.slice A4 l4.length c4)) := ⟨KaX.out.1, KaX.out.2.1, KaX.out.2.2.1, KaX.out.2.2.2, KbX.out.1, KbX.out.2.1, KbX.out.2.2.1, KbX.out.2.2.2⟩
        refine Code.wp_mono (Q := PQ [{ target := .fn (.func 28) #[], args := #[.pointer (some ⟨w.heap.size + 1 + 1, 0, none⟩)] }] (w.heap.size + 1 + 1) w) ?hm ?_
        case hm =>
          rintro e a w' ⟨c, rfl, rfl, hd, h4, h6, hc, hb⟩
          show Leaves Try.prog Try.f24 a.tmps _ a.defers _ w'
          rw [hd]
          refine leaves_cons (f := 28) (args := #[.pointer (some ⟨w.heap.size + 1 + 1, 0, none⟩)]) (by simp) (by simp [go_sem]) ?_
          refine (catch_fall (w.heap.size + 1 + 1) 0 16 [] _ hc).mono ?_
          rintro e u' w'' ⟨rfl, rfl, ob, rfl⟩
          have hze3 : w.heap.size + 1 + 1 < w'.heap.size := lt_of_cell (a := ⟨w.heap.size + 1 + 1, 0, none⟩) hc.1
          refine (show Leaves _ _ _ _ [] .returning _ from ⟨.tuple #[.int .i64 0, .int .i64 16], ?_, ires_fall hb (by omega) _ _⟩)
          have h7 : a.tmps[5]?.getD undef = .pointer (some ⟨w.heap.size + 1 + 1, 0, none⟩) := by rw [← h6, Array.getD_eq_getD_getElem?]
          have h5 : a.tmps[4]?.getD undef = .int .i64 0 := by rw [← h4, Array.getD_eq_getD_getElem?]
          simp [results, Try.results24, go_sem, hze3, hc.1, h5, h7]
        refine wp_region_held_drew (S := fun w' => w'.cell? ⟨w.heap.size, 0, none⟩ = some (.bool n1) ∧ w'.cell? ⟨w.heap.size, 1, none⟩ = some (.slice A1 l1.length c1) ∧ w'.cell? ⟨w.heap.size, 2, none⟩ = some (.bool n2) ∧ w'.cell? ⟨w.heap.size, 3, none⟩ = some (.slice A2 l2.length c2) ∧ w'.cell? ⟨w.heap.size + 1, 0, none⟩ = some (.bool n3) ∧ w'.cell? ⟨w.heap.size + 1, 1, none⟩ = some (.slice A3 l3.length c3) ∧ w'.cell? ⟨w.heap.size + 1, 2, none⟩ = some (.bool n4) ∧ w'.cell? ⟨w.heap.size + 1, 3, none⟩ = some (.slice A4 l4.length c4)) (by kernel_rfl) J0.out (fun hHeld => ?_)
        refine wpAnyH_take (i := 0) (v := .agg #[.bool n1, .slice A1 l1.length c1, .bool n2, .slice A2 l2.length c2]) rfl (by kernel_rfl) (by kernel_rfl) (by kernel_rfl) (fun _ _ _ h => pq_put (by decide) (by decide) h) (Or.inl ⟨by rfl, by intro w hSw; (try dsimp only at hSw); go_simp⟩) hHeld ?_
        (try simp only [Act.put])
        refine wpAnyH_take (i := 1) (v := .agg #[.bool n3, .slice A3 l3.length c3, .bool n4, .slice A4 l4.length c4]) rfl (by kernel_rfl) (by kernel_rfl) (by kernel_rfl) (fun _ _ _ h => pq_put (by decide) (by decide) h) (Or.inl ⟨by rfl, by intro w hSw; (try dsimp only at hSw); go_simp⟩) hHeld ?_
        (try simp only [Act.put])
        refine wpAnyH_take (i := 3) (v := .agg #[.bool n3, .slice A3 l3.length c3, .bool n4, .slice A4 l4.length c4]) rfl (by kernel_rfl) (by kernel_rfl) (by kernel_rfl) (fun _ _ _ h => pq_put (by decide) (by decide) h) (Or.inl ⟨by rfl, by intro w hSw; (try dsimp only at hSw); go_simp⟩) hHeld ?_
        (try simp only [Act.put])
        refine wpAnyH_take (i := 4) (v := .agg #[.bool n1, .slice A1 l1.length c1, .bool n2, .slice A2 l2.length c2]) rfl (by kernel_rfl) (by kernel_rfl) (by kernel_rfl) (fun _ _ _ h => pq_put (by decide) (by decide) h) (Or.inl ⟨by rfl, by intro w hSw; (try dsimp only at hSw); go_simp⟩) hHeld ?_
        (try simp only [Act.put])
        refine wpAnyH_ready (rs := [2]) (by kernel_rfl) (by simp) ?_
        refine AllReadyH.cons rfl (fun K hK => ?_) AllReadyH.nil
        go_simp
        refine (H0.out _ S1X.out S2X.out S3X.out S4X.out).mono ?_
        rintro e v1 ⟨rfl, hb⟩
        exact ⟨_, rfl, rfl, rfl, rfl, rfl, KeX.out.keep hb, below_mono BX.out hb⟩
      | true =>
        obtain ⟨n5, l5, r5⟩ : ∃ n l, wOf (x1 * y2) = (n, l) := ⟨_, _, rfl⟩
        have v5 := vz_mk r5.symm (fitB_iff.1 f0)
        have H0 : Hid (∀ W, Sl W A1 l1 c1 → Sl W A2 l2 c2 → Sl W A3 l3 c3 → Sl W A4 l4 c4 → Calls Try.prog 45 #[.agg #[.bool n1, .slice A1 l1.length c1, .bool n2, .slice A2 l2.length c2], .agg #[.bool n3, .slice A3 l3.length c3, .bool n4, .slice A4 l4.length c4]] W (WRes1 (n5, l5) W)) := fun W a b c d => by rw [← r5]; exact cross_ok n1 n2 n3 n4 A1 A2 A3 A4 l1 l2 l3 l4 c1 c2 c3 c4 x1 y2 h1 h4 (fitB_iff.1 f0) W a b c d
        cases f1 : fitB (x2 * y1) with
        | false =>
          rw [if_neg (by simp)]
          have H1 : Hid (∀ W, Sl W A1 l1 c1 → Sl W A2 l2 c2 → Sl W A3 l3 c3 → Sl W A4 l4 c4 → Calls Try.prog 45 #[.agg #[.bool n3, .slice A3 l3.length c3, .bool n4, .slice A4 l4.length c4], .agg #[.bool n1, .slice A1 l1.length c1, .bool n2, .slice A2 l2.length c2]] W (Falls 16 W)) := fun W a b c d => cross_bad n3 n4 n1 n2 A3 A4 A1 A2 l3 l4 l1 l2 c3 c4 c1 c2 x2 y1 h3 h2 (fun e => by rw [fitB_iff.2 e] at f1; cases f1) W c d a b
          clear hs1 hs2 hs3 hs4 hb1 hb2 h1 h2 h3 h4 f0 f1 v5 r5
          go_enter_defers Try.func24, Try.ntmps24
          go_wp2_with fail
          refine (fcheck_any n1 n2 A1 A2 l1 l2 c1 c2 _ (((S1.out.alloc _).alloc _).alloc _) (((S2.out.alloc _).alloc _).alloc _)).mono ?_
          rw [e1.out]
          rintro e w1 ⟨rfl, hb⟩
          have Ka' : Hid (Cf w1 w.heap.size n1 A1 l1.length c1 n2 A2 l2.length c2) := Cf.keep (Cf.keep (Cf.keep (Cf.fresh (by simp) _ _ _ _ _ _ _ _ _) (blw1 _ _)) (blw1 _ _)) hb
          have Kb' : Hid (Cf w1 (w.heap.size + 1) n3 A3 l3.length c3 n4 A4 l4.length c4) := Cf.keep (Cf.keep (Cf.fresh (by simp) _ _ _ _ _ _ _ _ _) (blw1 _ _)) hb
          have Ke' : Hid (C1 w1 (w.heap.size + 1 + 1) (.int .i64 0)) := C1.keep (C1.fresh (by simp) _ _) hb
          have S1' : Hid (Sl w1 A1 l1 c1) := Sl.below (((S1.out.alloc _).alloc _).alloc _) hb
          have S2' : Hid (Sl w1 A2 l2 c2) := Sl.below (((S2.out.alloc _).alloc _).alloc _) hb
          have S3' : Hid (Sl w1 A3 l3 c3) := Sl.below (((S3.out.alloc _).alloc _).alloc _) hb
          have S4' : Hid (Sl w1 A4 l4 c4) := Sl.below (((S4.out.alloc _).alloc _).alloc _) hb
          have B' : Hid (Below w.heap.size w w1) := below_mono (below_mono (below_mono (below_mono B.out (blw1 _ _)) (blw1 _ _)) (blw1 _ _)) hb
          clear hb S1 S2 S3 S4 B
          have Ka := Ka'
          have Kb := Kb'
          have Ke := Ke'
          have S1 := S1'
          have S2 := S2'
          have S3 := S3'
          have S4 := S4'
          have B := B'
          clear Ka' Kb' Ke' S1' S2' S3' S4' B'
          obtain ⟨qa0, qa1, qa2, qa3⟩ := Ka.out
          obtain ⟨qb0, qb1, qb2, qb3⟩ := Kb.out
          have hza : w.heap.size < w1.heap.size := lt_of_cell (a := ⟨w.heap.size, 0, none⟩) Ka.out.1
          have hzb : w.heap.size + 1 < w1.heap.size := lt_of_cell (a := ⟨w.heap.size + 1, 0, none⟩) Kb.out.1
          have hze : w.heap.size + 1 + 1 < w1.heap.size := lt_of_cell (a := ⟨w.heap.size + 1 + 1, 0, none⟩) Ke.out.1
          go_wp2_with fail
          refine (want_ok _).mono ?_
          rintro e w2 ⟨rfl, hb⟩
          clear qa0 qa1 qa2 qa3 qb0 qb1 qb2 qb3
          have Ka' : Hid (Cf w2 w.heap.size n1 A1 l1.length c1 n2 A2 l2.length c2) := Cf.keep Ka.out hb
          have Kb' : Hid (Cf w2 (w.heap.size + 1) n3 A3 l3.length c3 n4 A4 l4.length c4) := Cf.keep Kb.out hb
          have Ke' : Hid (C1 w2 (w.heap.size + 1 + 1) (.int .i64 0)) := C1.keep Ke.out hb
          have S1' : Hid (Sl w2 A1 l1 c1) := Sl.below S1.out hb
          have S2' : Hid (Sl w2 A2 l2 c2) := Sl.below S2.out hb
          have S3' : Hid (Sl w2 A3 l3 c3) := Sl.below S3.out hb
          have S4' : Hid (Sl w2 A4 l4 c4) := Sl.below S4.out hb
          have B' : Hid (Below w.heap.size w w2) := below_mono B.out hb
          clear hb Ka Kb Ke S1 S2 S3 S4 B
          have Ka := Ka'
          have Kb := Kb'
          have Ke := Ke'
          have S1 := S1'
          have S2 := S2'
          have S3 := S3'
          have S4 := S4'
          have B := B'
          clear Ka' Kb' Ke' S1' S2' S3' S4' B'
          obtain ⟨qa0, qa1, qa2, qa3⟩ := Ka.out
          obtain ⟨qb0, qb1, qb2, qb3⟩ := Kb.out
          replace hza : w.heap.size < w2.heap.size := lt_of_cell (a := ⟨w.heap.size, 0, none⟩) Ka.out.1
          replace hzb : w.heap.size + 1 < w2.heap.size := lt_of_cell (a := ⟨w.heap.size + 1, 0, none⟩) Kb.out.1
          replace hze : w.heap.size + 1 + 1 < w2.heap.size := lt_of_cell (a := ⟨w.heap.size + 1 + 1, 0, none⟩) Ke.out.1
          go_wp2_with fail
          refine (fcheck_any n3 n4 A3 A4 l3 l4 c3 c4 _ S3.out S4.out).mono ?_
          rw [e2.out]
          rintro e w3 ⟨rfl, hb⟩
          clear qa0 qa1 qa2 qa3 qb0 qb1 qb2 qb3
          have Ka' : Hid (Cf w3 w.heap.size n1 A1 l1.length c1 n2 A2 l2.length c2) := Cf.keep Ka.out hb
          have Kb' : Hid (Cf w3 (w.heap.size + 1) n3 A3 l3.length c3 n4 A4 l4.length c4) := Cf.keep Kb.out hb
          have Ke' : Hid (C1 w3 (w.heap.size + 1 + 1) (.int .i64 0)) := C1.keep Ke.out hb
          have S1' : Hid (Sl w3 A1 l1 c1) := Sl.below S1.out hb
          have S2' : Hid (Sl w3 A2 l2 c2) := Sl.below S2.out hb
          have S3' : Hid (Sl w3 A3 l3 c3) := Sl.below S3.out hb
          have S4' : Hid (Sl w3 A4 l4 c4) := Sl.below S4.out hb
          have B' : Hid (Below w.heap.size w w3) := below_mono B.out hb
          clear hb Ka Kb Ke S1 S2 S3 S4 B
          have Ka := Ka'
          have Kb := Kb'
          have Ke := Ke'
          have S1 := S1'
          have S2 := S2'
          have S3 := S3'
          have S4 := S4'
          have B := B'
          clear Ka' Kb' Ke' S1' S2' S3' S4' B'
          obtain ⟨qa0, qa1, qa2, qa3⟩ := Ka.out
          obtain ⟨qb0, qb1, qb2, qb3⟩ := Kb.out
          replace hza : w.heap.size < w3.heap.size := lt_of_cell (a := ⟨w.heap.size, 0, none⟩) Ka.out.1
          replace hzb : w.heap.size + 1 < w3.heap.size := lt_of_cell (a := ⟨w.heap.size + 1, 0, none⟩) Kb.out.1
          replace hze : w.heap.size + 1 + 1 < w3.heap.size := lt_of_cell (a := ⟨w.heap.size + 1 + 1, 0, none⟩) Ke.out.1
          go_wp2_with fail
          refine (want_ok _).mono ?_
          rintro e w4 ⟨rfl, hb⟩
          clear qa0 qa1 qa2 qa3 qb0 qb1 qb2 qb3
          have Ka' : Hid (Cf w4 w.heap.size n1 A1 l1.length c1 n2 A2 l2.length c2) := Cf.keep Ka.out hb
          have Kb' : Hid (Cf w4 (w.heap.size + 1) n3 A3 l3.length c3 n4 A4 l4.length c4) := Cf.keep Kb.out hb
          have Ke' : Hid (C1 w4 (w.heap.size + 1 + 1) (.int .i64 0)) := C1.keep Ke.out hb
          have S1' : Hid (Sl w4 A1 l1 c1) := Sl.below S1.out hb
          have S2' : Hid (Sl w4 A2 l2 c2) := Sl.below S2.out hb
          have S3' : Hid (Sl w4 A3 l3 c3) := Sl.below S3.out hb
          have S4' : Hid (Sl w4 A4 l4 c4) := Sl.below S4.out hb
          have B' : Hid (Below w.heap.size w w4) := below_mono B.out hb
          clear hb Ka Kb Ke S1 S2 S3 S4 B
          have Ka := Ka'
          have Kb := Kb'
          have Ke := Ke'
          have S1 := S1'
          have S2 := S2'
          have S3 := S3'
          have S4 := S4'
          have B := B'
          clear Ka' Kb' Ke' S1' S2' S3' S4' B'
          obtain ⟨qa0, qa1, qa2, qa3⟩ := Ka.out
          obtain ⟨qb0, qb1, qb2, qb3⟩ := Kb.out
          replace hza : w.heap.size < w4.heap.size := lt_of_cell (a := ⟨w.heap.size, 0, none⟩) Ka.out.1
          replace hzb : w.heap.size + 1 < w4.heap.size := lt_of_cell (a := ⟨w.heap.size + 1, 0, none⟩) Kb.out.1
          replace hze : w.heap.size + 1 + 1 < w4.heap.size := lt_of_cell (a := ⟨w.heap.size + 1 + 1, 0, none⟩) Ke.out.1
          go_wp2_with fail
          clear qa0 qa1 qa2 qa3 qb0 qb1 qb2 qb3
          have KaX : Hid (Cf w4.drew w.heap.size n1 A1 l1.length c1 n2 A2 l2.length c2) := Cf.drew Ka.out
          have KbX : Hid (Cf w4.drew (w.heap.size + 1) n3 A3 l3.length c3 n4 A4 l4.length c4) := Cf.drew Kb.out
          have KeX : Hid (C1 w4.drew (w.heap.size + 1 + 1) (.int .i64 0)) := Ke.out
          have S1X : Hid (Sl w4.drew A1 l1 c1) := Sl.drew S1.out
          have S2X : Hid (Sl w4.drew A2 l2 c2) := Sl.drew S2.out
          have S3X : Hid (Sl w4.drew A3 l3 c3) := Sl.drew S3.out
          have S4X : Hid (Sl w4.drew A4 l4 c4) := Sl.drew S4.out
          have BX : Hid (Below w.heap.size w w4.drew) := Below.drew B.out
          clear S1 S2 S3 S4 B Ka Kb Ke hza hzb hze
          have J0 : Hid (w4.drew.cell? ⟨w.heap.size, 0, none⟩ = some (.bool n1) ∧ w4.drew.cell? ⟨w.heap.size, 1, none⟩ = some (.slice A1 l1.length c1) ∧ w4.drew.cell? ⟨w.heap.size, 2, none⟩ = some (.bool n2) ∧ w4.drew.cell? ⟨w.heap.size, 3, none⟩ = some (.slice A2 l2.length c2) ∧ w4.drew.cell? ⟨w.heap.size + 1, 0, none⟩ = some (.bool n3) ∧ w4.drew.cell? ⟨w.heap.size + 1, 1, none⟩ = some (.slice A3 l3.length c3) ∧ w4.drew.cell? ⟨w.heap.size + 1, 2, none⟩ = some (.bool n4) ∧ w4.drew.cell? ⟨w.heap.size + 1, 3, none⟩ = some (.slice A4 l4.length c4)) := ⟨KaX.out.1, KaX.out.2.1, KaX.out.2.2.1, KaX.out.2.2.2, KbX.out.1, KbX.out.2.1, KbX.out.2.2.1, KbX.out.2.2.2⟩
          refine Code.wp_mono (Q := PQ [{ target := .fn (.func 28) #[], args := #[.pointer (some ⟨w.heap.size + 1 + 1, 0, none⟩)] }] (w.heap.size + 1 + 1) w) ?hm ?_
          case hm =>
            rintro e a w' ⟨c, rfl, rfl, hd, h4, h6, hc, hb⟩
            show Leaves Try.prog Try.f24 a.tmps _ a.defers _ w'
            rw [hd]
            refine leaves_cons (f := 28) (args := #[.pointer (some ⟨w.heap.size + 1 + 1, 0, none⟩)]) (by simp) (by simp [go_sem]) ?_
            refine (catch_fall (w.heap.size + 1 + 1) 0 16 [] _ hc).mono ?_
            rintro e u' w'' ⟨rfl, rfl, ob, rfl⟩
            have hze3 : w.heap.size + 1 + 1 < w'.heap.size := lt_of_cell (a := ⟨w.heap.size + 1 + 1, 0, none⟩) hc.1
            refine (show Leaves _ _ _ _ [] .returning _ from ⟨.tuple #[.int .i64 0, .int .i64 16], ?_, ires_fall hb (by omega) _ _⟩)
            have h7 : a.tmps[5]?.getD undef = .pointer (some ⟨w.heap.size + 1 + 1, 0, none⟩) := by rw [← h6, Array.getD_eq_getD_getElem?]
            have h5 : a.tmps[4]?.getD undef = .int .i64 0 := by rw [← h4, Array.getD_eq_getD_getElem?]
            simp [results, Try.results24, go_sem, hze3, hc.1, h5, h7]
          refine wp_region_held_drew (S := fun w' => w'.cell? ⟨w.heap.size, 0, none⟩ = some (.bool n1) ∧ w'.cell? ⟨w.heap.size, 1, none⟩ = some (.slice A1 l1.length c1) ∧ w'.cell? ⟨w.heap.size, 2, none⟩ = some (.bool n2) ∧ w'.cell? ⟨w.heap.size, 3, none⟩ = some (.slice A2 l2.length c2) ∧ w'.cell? ⟨w.heap.size + 1, 0, none⟩ = some (.bool n3) ∧ w'.cell? ⟨w.heap.size + 1, 1, none⟩ = some (.slice A3 l3.length c3) ∧ w'.cell? ⟨w.heap.size + 1, 2, none⟩ = some (.bool n4) ∧ w'.cell? ⟨w.heap.size + 1, 3, none⟩ = some (.slice A4 l4.length c4)) (by kernel_rfl) J0.out (fun hHeld => ?_)
          refine wpAnyH_take (i := 0) (v := .agg #[.bool n1, .slice A1 l1.length c1, .bool n2, .slice A2 l2.length c2]) rfl (by kernel_rfl) (by kernel_rfl) (by kernel_rfl) (fun _ _ _ h => pq_put (by decide) (by decide) h) (Or.inl ⟨by rfl, by intro w hSw; (try dsimp only at hSw); go_simp⟩) hHeld ?_
          (try simp only [Act.put])
          refine wpAnyH_take (i := 1) (v := .agg #[.bool n3, .slice A3 l3.length c3, .bool n4, .slice A4 l4.length c4]) rfl (by kernel_rfl) (by kernel_rfl) (by kernel_rfl) (fun _ _ _ h => pq_put (by decide) (by decide) h) (Or.inl ⟨by rfl, by intro w hSw; (try dsimp only at hSw); go_simp⟩) hHeld ?_
          (try simp only [Act.put])
          refine wpAnyH_take (i := 3) (v := .agg #[.bool n3, .slice A3 l3.length c3, .bool n4, .slice A4 l4.length c4]) rfl (by kernel_rfl) (by kernel_rfl) (by kernel_rfl) (fun _ _ _ h => pq_put (by decide) (by decide) h) (Or.inl ⟨by rfl, by intro w hSw; (try dsimp only at hSw); go_simp⟩) hHeld ?_
          (try simp only [Act.put])
          refine wpAnyH_take (i := 4) (v := .agg #[.bool n1, .slice A1 l1.length c1, .bool n2, .slice A2 l2.length c2]) rfl (by kernel_rfl) (by kernel_rfl) (by kernel_rfl) (fun _ _ _ h => pq_put (by decide) (by decide) h) (Or.inl ⟨by rfl, by intro w hSw; (try dsimp only at hSw); go_simp⟩) hHeld ?_
          (try simp only [Act.put])
          refine wpAnyH_ready (rs := [2]) (by kernel_rfl) (by simp) ?_
          refine AllReadyH.cons rfl (fun K hK => ?_) AllReadyH.nil
          go_simp
          refine (H0.out _ S1X.out S2X.out S3X.out S4X.out).mono ?_
          rintro e v1 ⟨A5, c5, rfl, hs5, hb⟩
          (try dsimp only at hs5)
          (try dsimp only)
          have Kav1 : Hid (Cf v1 w.heap.size n1 A1 l1.length c1 n2 A2 l2.length c2) := Cf.keep KaX.out hb
          have Kbv1 : Hid (Cf v1 (w.heap.size + 1) n3 A3 l3.length c3 n4 A4 l4.length c4) := Cf.keep KbX.out hb
          have Kev1 : Hid (C1 v1 (w.heap.size + 1 + 1) (.int .i64 0)) := C1.keep KeX.out hb
          have Bv1 := Lib.hid (below_mono BX.out hb)
          have S1v1 := Lib.hid (S1X.out.below hb)
          have S2v1 := Lib.hid (S2X.out.below hb)
          have S3v1 := Lib.hid (S3X.out.below hb)
          have S4v1 := Lib.hid (S4X.out.below hb)
          have J1 : Hid (v1.cell? ⟨w.heap.size, 0, none⟩ = some (.bool n1) ∧ v1.cell? ⟨w.heap.size, 1, none⟩ = some (.slice A1 l1.length c1) ∧ v1.cell? ⟨w.heap.size, 2, none⟩ = some (.bool n2) ∧ v1.cell? ⟨w.heap.size, 3, none⟩ = some (.slice A2 l2.length c2) ∧ v1.cell? ⟨w.heap.size + 1, 0, none⟩ = some (.bool n3) ∧ v1.cell? ⟨w.heap.size + 1, 1, none⟩ = some (.slice A3 l3.length c3) ∧ v1.cell? ⟨w.heap.size + 1, 2, none⟩ = some (.bool n4) ∧ v1.cell? ⟨w.heap.size + 1, 3, none⟩ = some (.slice A4 l4.length c4)) := ⟨Kav1.out.1, Kav1.out.2.1, Kav1.out.2.2.1, Kav1.out.2.2.2, Kbv1.out.1, Kbv1.out.2.1, Kbv1.out.2.2.1, Kbv1.out.2.2.2⟩
          clear hb hs5
          (try go_wp2_with fail)
          refine hK.out _ _ J1.out (fun hHeld2 => ?_)
          clear hK K
          (try simp only [Act.put])
          refine wpAnyH_ready (rs := [5]) (by kernel_rfl) (by simp) ?_
          refine AllReadyH.cons rfl (fun K hK => ?_) AllReadyH.nil
          go_simp
          refine (H1.out _ S1v1.out S2v1.out S3v1.out S4v1.out).mono ?_
          rintro e v2 ⟨rfl, hb⟩
          exact ⟨_, rfl, rfl, rfl, rfl, rfl, Kev1.out.keep hb, below_mono Bv1.out hb⟩
        | true =>
          rw [if_pos (by simp)]
          obtain ⟨n6, l6, r6⟩ : ∃ n l, wOf (x2 * y1) = (n, l) := ⟨_, _, rfl⟩
          have v6 := vz_mk r6.symm (fitB_iff.1 f1)
          have H1 : Hid (∀ W, Sl W A1 l1 c1 → Sl W A2 l2 c2 → Sl W A3 l3 c3 → Sl W A4 l4 c4 → Calls Try.prog 45 #[.agg #[.bool n3, .slice A3 l3.length c3, .bool n4, .slice A4 l4.length c4], .agg #[.bool n1, .slice A1 l1.length c1, .bool n2, .slice A2 l2.length c2]] W (WRes1 (n6, l6) W)) := fun W a b c d => by rw [← r6]; exact cross_ok n3 n4 n1 n2 A3 A4 A1 A2 l3 l4 l1 l2 c3 c4 c1 c2 x2 y1 h3 h2 (fitB_iff.1 f1) W c d a b
          obtain ⟨k, hk⟩ : ∃ k, k = cmpZ (x1 * y2) (x2 * y1) := ⟨_, rfl⟩
          have e7 : Hid (cmpS n5 l5 n6 l6 = (k, 0)) := by rw [Hid, cmpS_z v5 v6, hk]
          rw [← hk]
          clear hs1 hs2 hs3 hs4 hb1 hb2 h1 h2 h3 h4 f0 f1 v5 r5 v6 r6 hk
          go_enter_defers Try.func24, Try.ntmps24
          go_wp2_with fail
          refine (fcheck_any n1 n2 A1 A2 l1 l2 c1 c2 _ (((S1.out.alloc _).alloc _).alloc _) (((S2.out.alloc _).alloc _).alloc _)).mono ?_
          rw [e1.out]
          rintro e w1 ⟨rfl, hb⟩
          have Ka' : Hid (Cf w1 w.heap.size n1 A1 l1.length c1 n2 A2 l2.length c2) := Cf.keep (Cf.keep (Cf.keep (Cf.fresh (by simp) _ _ _ _ _ _ _ _ _) (blw1 _ _)) (blw1 _ _)) hb
          have Kb' : Hid (Cf w1 (w.heap.size + 1) n3 A3 l3.length c3 n4 A4 l4.length c4) := Cf.keep (Cf.keep (Cf.fresh (by simp) _ _ _ _ _ _ _ _ _) (blw1 _ _)) hb
          have Ke' : Hid (C1 w1 (w.heap.size + 1 + 1) (.int .i64 0)) := C1.keep (C1.fresh (by simp) _ _) hb
          have S1' : Hid (Sl w1 A1 l1 c1) := Sl.below (((S1.out.alloc _).alloc _).alloc _) hb
          have S2' : Hid (Sl w1 A2 l2 c2) := Sl.below (((S2.out.alloc _).alloc _).alloc _) hb
          have S3' : Hid (Sl w1 A3 l3 c3) := Sl.below (((S3.out.alloc _).alloc _).alloc _) hb
          have S4' : Hid (Sl w1 A4 l4 c4) := Sl.below (((S4.out.alloc _).alloc _).alloc _) hb
          have B' : Hid (Below w.heap.size w w1) := below_mono (below_mono (below_mono (below_mono B.out (blw1 _ _)) (blw1 _ _)) (blw1 _ _)) hb
          clear hb S1 S2 S3 S4 B
          have Ka := Ka'
          have Kb := Kb'
          have Ke := Ke'
          have S1 := S1'
          have S2 := S2'
          have S3 := S3'
          have S4 := S4'
          have B := B'
          clear Ka' Kb' Ke' S1' S2' S3' S4' B'
          obtain ⟨qa0, qa1, qa2, qa3⟩ := Ka.out
          obtain ⟨qb0, qb1, qb2, qb3⟩ := Kb.out
          have hza : w.heap.size < w1.heap.size := lt_of_cell (a := ⟨w.heap.size, 0, none⟩) Ka.out.1
          have hzb : w.heap.size + 1 < w1.heap.size := lt_of_cell (a := ⟨w.heap.size + 1, 0, none⟩) Kb.out.1
          have hze : w.heap.size + 1 + 1 < w1.heap.size := lt_of_cell (a := ⟨w.heap.size + 1 + 1, 0, none⟩) Ke.out.1
          go_wp2_with fail
          refine (want_ok _).mono ?_
          rintro e w2 ⟨rfl, hb⟩
          clear qa0 qa1 qa2 qa3 qb0 qb1 qb2 qb3
          have Ka' : Hid (Cf w2 w.heap.size n1 A1 l1.length c1 n2 A2 l2.length c2) := Cf.keep Ka.out hb
          have Kb' : Hid (Cf w2 (w.heap.size + 1) n3 A3 l3.length c3 n4 A4 l4.length c4) := Cf.keep Kb.out hb
          have Ke' : Hid (C1 w2 (w.heap.size + 1 + 1) (.int .i64 0)) := C1.keep Ke.out hb
          have S1' : Hid (Sl w2 A1 l1 c1) := Sl.below S1.out hb
          have S2' : Hid (Sl w2 A2 l2 c2) := Sl.below S2.out hb
          have S3' : Hid (Sl w2 A3 l3 c3) := Sl.below S3.out hb
          have S4' : Hid (Sl w2 A4 l4 c4) := Sl.below S4.out hb
          have B' : Hid (Below w.heap.size w w2) := below_mono B.out hb
          clear hb Ka Kb Ke S1 S2 S3 S4 B
          have Ka := Ka'
          have Kb := Kb'
          have Ke := Ke'
          have S1 := S1'
          have S2 := S2'
          have S3 := S3'
          have S4 := S4'
          have B := B'
          clear Ka' Kb' Ke' S1' S2' S3' S4' B'
          obtain ⟨qa0, qa1, qa2, qa3⟩ := Ka.out
          obtain ⟨qb0, qb1, qb2, qb3⟩ := Kb.out
          replace hza : w.heap.size < w2.heap.size := lt_of_cell (a := ⟨w.heap.size, 0, none⟩) Ka.out.1
          replace hzb : w.heap.size + 1 < w2.heap.size := lt_of_cell (a := ⟨w.heap.size + 1, 0, none⟩) Kb.out.1
          replace hze : w.heap.size + 1 + 1 < w2.heap.size := lt_of_cell (a := ⟨w.heap.size + 1 + 1, 0, none⟩) Ke.out.1
          go_wp2_with fail
          refine (fcheck_any n3 n4 A3 A4 l3 l4 c3 c4 _ S3.out S4.out).mono ?_
          rw [e2.out]
          rintro e w3 ⟨rfl, hb⟩
          clear qa0 qa1 qa2 qa3 qb0 qb1 qb2 qb3
          have Ka' : Hid (Cf w3 w.heap.size n1 A1 l1.length c1 n2 A2 l2.length c2) := Cf.keep Ka.out hb
          have Kb' : Hid (Cf w3 (w.heap.size + 1) n3 A3 l3.length c3 n4 A4 l4.length c4) := Cf.keep Kb.out hb
          have Ke' : Hid (C1 w3 (w.heap.size + 1 + 1) (.int .i64 0)) := C1.keep Ke.out hb
          have S1' : Hid (Sl w3 A1 l1 c1) := Sl.below S1.out hb
          have S2' : Hid (Sl w3 A2 l2 c2) := Sl.below S2.out hb
          have S3' : Hid (Sl w3 A3 l3 c3) := Sl.below S3.out hb
          have S4' : Hid (Sl w3 A4 l4 c4) := Sl.below S4.out hb
          have B' : Hid (Below w.heap.size w w3) := below_mono B.out hb
          clear hb Ka Kb Ke S1 S2 S3 S4 B
          have Ka := Ka'
          have Kb := Kb'
          have Ke := Ke'
          have S1 := S1'
          have S2 := S2'
          have S3 := S3'
          have S4 := S4'
          have B := B'
          clear Ka' Kb' Ke' S1' S2' S3' S4' B'
          obtain ⟨qa0, qa1, qa2, qa3⟩ := Ka.out
          obtain ⟨qb0, qb1, qb2, qb3⟩ := Kb.out
          replace hza : w.heap.size < w3.heap.size := lt_of_cell (a := ⟨w.heap.size, 0, none⟩) Ka.out.1
          replace hzb : w.heap.size + 1 < w3.heap.size := lt_of_cell (a := ⟨w.heap.size + 1, 0, none⟩) Kb.out.1
          replace hze : w.heap.size + 1 + 1 < w3.heap.size := lt_of_cell (a := ⟨w.heap.size + 1 + 1, 0, none⟩) Ke.out.1
          go_wp2_with fail
          refine (want_ok _).mono ?_
          rintro e w4 ⟨rfl, hb⟩
          clear qa0 qa1 qa2 qa3 qb0 qb1 qb2 qb3
          have Ka' : Hid (Cf w4 w.heap.size n1 A1 l1.length c1 n2 A2 l2.length c2) := Cf.keep Ka.out hb
          have Kb' : Hid (Cf w4 (w.heap.size + 1) n3 A3 l3.length c3 n4 A4 l4.length c4) := Cf.keep Kb.out hb
          have Ke' : Hid (C1 w4 (w.heap.size + 1 + 1) (.int .i64 0)) := C1.keep Ke.out hb
          have S1' : Hid (Sl w4 A1 l1 c1) := Sl.below S1.out hb
          have S2' : Hid (Sl w4 A2 l2 c2) := Sl.below S2.out hb
          have S3' : Hid (Sl w4 A3 l3 c3) := Sl.below S3.out hb
          have S4' : Hid (Sl w4 A4 l4 c4) := Sl.below S4.out hb
          have B' : Hid (Below w.heap.size w w4) := below_mono B.out hb
          clear hb Ka Kb Ke S1 S2 S3 S4 B
          have Ka := Ka'
          have Kb := Kb'
          have Ke := Ke'
          have S1 := S1'
          have S2 := S2'
          have S3 := S3'
          have S4 := S4'
          have B := B'
          clear Ka' Kb' Ke' S1' S2' S3' S4' B'
          obtain ⟨qa0, qa1, qa2, qa3⟩ := Ka.out
          obtain ⟨qb0, qb1, qb2, qb3⟩ := Kb.out
          replace hza : w.heap.size < w4.heap.size := lt_of_cell (a := ⟨w.heap.size, 0, none⟩) Ka.out.1
          replace hzb : w.heap.size + 1 < w4.heap.size := lt_of_cell (a := ⟨w.heap.size + 1, 0, none⟩) Kb.out.1
          replace hze : w.heap.size + 1 + 1 < w4.heap.size := lt_of_cell (a := ⟨w.heap.size + 1 + 1, 0, none⟩) Ke.out.1
          go_wp2_with fail
          clear qa0 qa1 qa2 qa3 qb0 qb1 qb2 qb3
          have KaX : Hid (Cf w4.drew w.heap.size n1 A1 l1.length c1 n2 A2 l2.length c2) := Cf.drew Ka.out
          have KbX : Hid (Cf w4.drew (w.heap.size + 1) n3 A3 l3.length c3 n4 A4 l4.length c4) := Cf.drew Kb.out
          have KeX : Hid (C1 w4.drew (w.heap.size + 1 + 1) (.int .i64 0)) := Ke.out
          have S1X : Hid (Sl w4.drew A1 l1 c1) := Sl.drew S1.out
          have S2X : Hid (Sl w4.drew A2 l2 c2) := Sl.drew S2.out
          have S3X : Hid (Sl w4.drew A3 l3 c3) := Sl.drew S3.out
          have S4X : Hid (Sl w4.drew A4 l4 c4) := Sl.drew S4.out
          have BX : Hid (Below w.heap.size w w4.drew) := Below.drew B.out
          clear S1 S2 S3 S4 B Ka Kb Ke hza hzb hze
          have J0 : Hid (w4.drew.cell? ⟨w.heap.size, 0, none⟩ = some (.bool n1) ∧ w4.drew.cell? ⟨w.heap.size, 1, none⟩ = some (.slice A1 l1.length c1) ∧ w4.drew.cell? ⟨w.heap.size, 2, none⟩ = some (.bool n2) ∧ w4.drew.cell? ⟨w.heap.size, 3, none⟩ = some (.slice A2 l2.length c2) ∧ w4.drew.cell? ⟨w.heap.size + 1, 0, none⟩ = some (.bool n3) ∧ w4.drew.cell? ⟨w.heap.size + 1, 1, none⟩ = some (.slice A3 l3.length c3) ∧ w4.drew.cell? ⟨w.heap.size + 1, 2, none⟩ = some (.bool n4) ∧ w4.drew.cell? ⟨w.heap.size + 1, 3, none⟩ = some (.slice A4 l4.length c4)) := ⟨KaX.out.1, KaX.out.2.1, KaX.out.2.2.1, KaX.out.2.2.2, KbX.out.1, KbX.out.2.1, KbX.out.2.2.1, KbX.out.2.2.2⟩
          go_region_held3 (fun w' => w'.cell? ⟨w.heap.size, 0, none⟩ = some (.bool n1) ∧ w'.cell? ⟨w.heap.size, 1, none⟩ = some (.slice A1 l1.length c1) ∧ w'.cell? ⟨w.heap.size, 2, none⟩ = some (.bool n2) ∧ w'.cell? ⟨w.heap.size, 3, none⟩ = some (.slice A2 l2.length c2) ∧ w'.cell? ⟨w.heap.size + 1, 0, none⟩ = some (.bool n3) ∧ w'.cell? ⟨w.heap.size + 1, 1, none⟩ = some (.slice A3 l3.length c3) ∧ w'.cell? ⟨w.heap.size + 1, 2, none⟩ = some (.bool n4) ∧ w'.cell? ⟨w.heap.size + 1, 3, none⟩ = some (.slice A4 l4.length c4))
            (first | with_reducible exact J3.out | with_reducible exact far8 (by omega) (by omega) _ J3.out | with_reducible exact J2.out | with_reducible exact J1.out | with_reducible exact J0.out)
            (first
              | (go_at_call 45; (with_reducible refine (H0.out _ S1X.out S2X.out S3X.out S4X.out).mono ?_); rintro e v1 ⟨A5, c5, rfl, hs5, hb⟩; (try dsimp only at hs5); (try dsimp only); have S5v1 : Hid (Sl v1 A5 l5 c5) := hs5; have Kav1 : Hid (Cf v1 w.heap.size n1 A1 l1.length c1 n2 A2 l2.length c2) := Cf.keep KaX.out hb; have Kbv1 : Hid (Cf v1 (w.heap.size + 1) n3 A3 l3.length c3 n4 A4 l4.length c4) := Cf.keep KbX.out hb; have Kev1 : Hid (C1 v1 (w.heap.size + 1 + 1) (.int .i64 0)) := C1.keep KeX.out hb; have Bv1 := Lib.hid (below_mono BX.out hb); have S1v1 := Lib.hid (S1X.out.below hb); have S2v1 := Lib.hid (S2X.out.below hb); have S3v1 := Lib.hid (S3X.out.below hb); have S4v1 := Lib.hid (S4X.out.below hb); have J1 : Hid (v1.cell? ⟨w.heap.size, 0, none⟩ = some (.bool n1) ∧ v1.cell? ⟨w.heap.size, 1, none⟩ = some (.slice A1 l1.length c1) ∧ v1.cell? ⟨w.heap.size, 2, none⟩ = some (.bool n2) ∧ v1.cell? ⟨w.heap.size, 3, none⟩ = some (.slice A2 l2.length c2) ∧ v1.cell? ⟨w.heap.size + 1, 0, none⟩ = some (.bool n3) ∧ v1.cell? ⟨w.heap.size + 1, 1, none⟩ = some (.slice A3 l3.length c3) ∧ v1.cell? ⟨w.heap.size + 1, 2, none⟩ = some (.bool n4) ∧ v1.cell? ⟨w.heap.size + 1, 3, none⟩ = some (.slice A4 l4.length c4)) := ⟨Kav1.out.1, Kav1.out.2.1, Kav1.out.2.2.1, Kav1.out.2.2.2, Kbv1.out.1, Kbv1.out.2.1, Kbv1.out.2.2.1, Kbv1.out.2.2.2⟩; clear hb hs5)
              | (go_at_call 45; (with_reducible refine (H1.out _ S1v1.out S2v1.out S3v1.out S4v1.out).mono ?_); rintro e v2 ⟨A6, c6, rfl, hs6, hb⟩; (try dsimp only at hs6); (try dsimp only); have S6v2 : Hid (Sl v2 A6 l6 c6) := hs6; have Kav2 : Hid (Cf v2 w.heap.size n1 A1 l1.length c1 n2 A2 l2.length c2) := Cf.keep Kav1.out hb; have Kbv2 : Hid (Cf v2 (w.heap.size + 1) n3 A3 l3.length c3 n4 A4 l4.length c4) := Cf.keep Kbv1.out hb; have Kev2 : Hid (C1 v2 (w.heap.size + 1 + 1) (.int .i64 0)) := C1.keep Kev1.out hb; have Bv2 := Lib.hid (below_mono Bv1.out hb); have S5v2 := Lib.hid (S5v1.out.below hb); have J2 : Hid (v2.cell? ⟨w.heap.size, 0, none⟩ = some (.bool n1) ∧ v2.cell? ⟨w.heap.size, 1, none⟩ = some (.slice A1 l1.length c1) ∧ v2.cell? ⟨w.heap.size, 2, none⟩ = some (.bool n2) ∧ v2.cell? ⟨w.heap.size, 3, none⟩ = some (.slice A2 l2.length c2) ∧ v2.cell? ⟨w.heap.size + 1, 0, none⟩ = some (.bool n3) ∧ v2.cell? ⟨w.heap.size + 1, 1, none⟩ = some (.slice A3 l3.length c3) ∧ v2.cell? ⟨w.heap.size + 1, 2, none⟩ = some (.bool n4) ∧ v2.cell? ⟨w.heap.size + 1, 3, none⟩ = some (.slice A4 l4.length c4)) := ⟨Kav2.out.1, Kav2.out.2.1, Kav2.out.2.2.1, Kav2.out.2.2.2, Kbv2.out.1, Kbv2.out.2.1, Kbv2.out.2.2.1, Kbv2.out.2.2.2⟩; clear hb hs6)
              | (go_at_call 57; (with_reducible refine (cmp_any n5 n6 _ _ l5 l6 _ _ _ S5v2.out S6v2.out).mono ?_); rw [e7.out]; rintro e v3 ⟨rfl, hb⟩; have Kav3 : Hid (Cf v3 w.heap.size n1 A1 l1.length c1 n2 A2 l2.length c2) := Cf.keep Kav2.out hb; have Kbv3 : Hid (Cf v3 (w.heap.size + 1) n3 A3 l3.length c3 n4 A4 l4.length c4) := Cf.keep Kbv2.out hb; have Kev3 : Hid (C1 v3 (w.heap.size + 1 + 1) (.int .i64 0)) := C1.keep Kev2.out hb; have Bv3 := Lib.hid (below_mono Bv2.out hb); have J3 : Hid (v3.cell? ⟨w.heap.size, 0, none⟩ = some (.bool n1) ∧ v3.cell? ⟨w.heap.size, 1, none⟩ = some (.slice A1 l1.length c1) ∧ v3.cell? ⟨w.heap.size, 2, none⟩ = some (.bool n2) ∧ v3.cell? ⟨w.heap.size, 3, none⟩ = some (.slice A2 l2.length c2) ∧ v3.cell? ⟨w.heap.size + 1, 0, none⟩ = some (.bool n3) ∧ v3.cell? ⟨w.heap.size + 1, 1, none⟩ = some (.slice A3 l3.length c3) ∧ v3.cell? ⟨w.heap.size + 1, 2, none⟩ = some (.bool n4) ∧ v3.cell? ⟨w.heap.size + 1, 3, none⟩ = some (.slice A4 l4.length c4)) := ⟨Kav3.out.1, Kav3.out.2.1, Kav3.out.2.2.1, Kav3.out.2.2.2, Kbv3.out.1, Kbv3.out.2.1, Kbv3.out.2.2.1, Kbv3.out.2.2.2⟩; obtain ⟨u0, u1⟩ := Kev3.out; clear hb))
          go_wp2_with fail
          refine leaves_cons (f := 28) (args := #[.pointer (some ⟨w.heap.size + 1 + 1, 0, none⟩)]) (by simp) (by simp [go_sem]) ?_
          refine (catch_idle ⟨w.heap.size + 1 + 1, 0, none⟩ _).mono ?_
          rintro e u' w'' ⟨rfl, rfl, rfl⟩
          simp [Leaves, settle, results, Try.results24, go_sem, u0]
          exact ⟨rfl, Bv3.out.setCell (p := ⟨w.heap.size + 1 + 1, 0, none⟩) (by simp <;> omega) _⟩

end Go.Proofs.Ythlfidbhldbedaa
/- Memory: two fractions made at once and laid into boxes, in any order of the steps; the statement 'x, y := Twin(a), Twin(b)'. -/
namespace Go.Proofs.Ythlfidbhldbedaa
open Go.RowKit
attribute [local go_sem ↓] Go.wp_at_zero Go.wp_at_succ
theorem wpOp_noneF {P : Program} {ops : Array Oper} {Q : Exit → Act → World → Prop} {i : Nat} {K : Act → World → Prop} {a : Act} {w : World} {o : Oper} (hi : ops[i]? = some o) (hg : o.guard = none)
    (h : Oper.wp P o a w K Q) : wpOp P ops Q i K a w := by
  refine wpOp_of hi ?_
  rw [if_pos (by simp [Region.wanted, hg])]
  exact h

theorem region_namedF {P : Program} {id : Nat} {ops : Array Oper} {Q : Exit → Act → World → Prop} {a : Act} {w : World} (hm : P.follows .mixedOrders = true)
    (h : wpAny P .any ops Q ops.size (Array.replicate ops.size false) a w.drew) : (Code.region id ops true).wp P Q a w := wp_region_any hm h

/-- An operation of the region: what it writes, what it does, what it waits for. -/
def OpIsF (ops : Array Oper) (i : Nat) (d : Option Tmp) (op : Op) (waits : List Nat) : Prop :=
  ∃ o, ops[i]? = some o ∧ o.dst = d ∧ o.op = op ∧ o.guard = none ∧ ∀ k ∈ waits, ∃ e ∈ o.after, e.on = k ∧ Region.binds .any e = true

theorem OpIsF.take {ops : Array Oper} {i : Nat} {d : Option Tmp} {op : Op} {ws : List Nat} (h : OpIsF ops i d op ws) {l : Array Bool} (hr : i < ops.size ∧ l.getD i true = false ∧ ∀ o, ops[i]? = some o → ∀ e ∈ o.after, Region.binds .any e = true → l.getD e.on false = true) :
    l.getD i true = false ∧ (∀ k ∈ ws, l.getD k false = true) ∧ ∃ ty pos after, ops[i]? = some ⟨d, op, ty, pos, after, none⟩ := by
  obtain ⟨⟨dst, op', ty, pos, after, guard⟩, hi, rfl, rfl, hg, hw⟩ := h
  simp only at hg
  subst hg
  refine ⟨hr.2.1, fun k hk => ?_, ty, pos, after, hi⟩
  obtain ⟨e, he, rfl, hb⟩ := hw k hk
  exact hr.2.2 _ hi e he hb

theorem ev_rawF {a : Act} {s : Nat} {x : Value} (ev : a.eval (.tmp s) = x) : a.tmps[s]?.getD undef = x := by rw [← ev, Act.eval, Array.getD_eq_getD_getElem?]

/-- A fraction as it lies: signs, slices. -/
structure FV where
  n1 : Bool
  A1 : Option Addr
  m1 : Nat
  c1 : Nat
  n2 : Bool
  A2 : Option Addr
  m2 : Nat
  c2 : Nat

@[reducible] def FV.val (v : FV) : Value := .agg #[.bool v.n1, .slice v.A1 v.m1 v.c1, .bool v.n2, .slice v.A2 v.m2 v.c2]

def CF (W : World) (g : Nat) (v : FV) : Prop := Cf W g v.n1 v.A1 v.m1 v.c1 v.n2 v.A2 v.m2 v.c2

@[reducible] def zf : FV := ⟨false, none, 0, 0, false, none, 0, 0⟩

@[reducible] def zo : Obj := .cells #[.bool false, .slice none 0 0, .bool false, .slice none 0 0] 26

@[reducible] def putF (W : World) (g : Nat) (v : FV) : World := (((W.setCell ⟨g, 0, none⟩ (.bool v.n1)).setCell ⟨g, 1, none⟩ (.slice v.A1 v.m1 v.c1)).setCell ⟨g, 2, none⟩ (.bool v.n2)).setCell ⟨g, 3, none⟩ (.slice v.A2 v.m2 v.c2)

theorem CF.keep {W W' : World} {g : Nat} {v : FV} (h : CF W g v) (hb : Below W.heap.size W W') : CF W' g v := Cf.keep h hb

theorem CF.put {W : World} {g h : Nat} {v u : FV} (k : CF W h u) (hne : h ≠ g) : CF (putF W g v) h u :=
  far1 hne _ (far1 hne _ (far1 hne _ (far1 hne _ k)))

theorem CF.new {W : World} {g : Nat} {v u : FV} (k : CF W g u) : CF (putF W g v) g v := by
  obtain ⟨h0, h1, h2, h3⟩ := k
  have ne : ∀ i j : Nat, i ≠ j → (⟨g, i, none⟩ : Addr) ≠ ⟨g, j, none⟩ := fun i j hij e => hij (by injection e)
  refine ⟨?_, ?_, ?_, ?_⟩
  · rw [World.cell?_setCell_other _ _ _ _ (ne 3 0 (by decide)), World.cell?_setCell_other _ _ _ _ (ne 2 0 (by decide)), World.cell?_setCell_other _ _ _ _ (ne 1 0 (by decide)), World.cell?_setCell_same _ _ _ h0]
  · rw [World.cell?_setCell_other _ _ _ _ (ne 3 1 (by decide)), World.cell?_setCell_other _ _ _ _ (ne 2 1 (by decide)), World.cell?_setCell_same _ _ _ ((World.cell?_setCell_other _ _ _ _ (ne 0 1 (by decide))).trans h1)]
  · rw [World.cell?_setCell_other _ _ _ _ (ne 3 2 (by decide)), World.cell?_setCell_same _ _ _ ((World.cell?_setCell_other _ _ _ _ (ne 1 2 (by decide))).trans ((World.cell?_setCell_other _ _ _ _ (ne 0 2 (by decide))).trans h2))]
  · exact World.cell?_setCell_same _ _ _ ((World.cell?_setCell_other _ _ _ _ (ne 2 3 (by decide))).trans ((World.cell?_setCell_other _ _ _ _ (ne 1 3 (by decide))).trans ((World.cell?_setCell_other _ _ _ _ (ne 0 3 (by decide))).trans h3)))

theorem ff_put {W : World} {g h : Nat} {v : FV} (f : Ff W h) : Ff (putF W g v) h := by
  obtain ⟨h0, h1, h2, h3⟩ := f
  exact ⟨by rw [World.frozen?_setCell, World.frozen?_setCell, World.frozen?_setCell, World.frozen?_setCell]; exact h0, by rw [World.frozen?_setCell, World.frozen?_setCell, World.frozen?_setCell, World.frozen?_setCell]; exact h1, by rw [World.frozen?_setCell, World.frozen?_setCell, World.frozen?_setCell, World.frozen?_setCell]; exact h2, by rw [World.frozen?_setCell, World.frozen?_setCell, World.frozen?_setCell, World.frozen?_setCell]; exact h3⟩

/-- What is said of a fraction stays where only new memory is made, or a fraction's box is written. -/
structure Stab (T : World → FV → Prop) : Prop where
  below : ∀ W W' v, T W v → Below W.heap.size W W' → T W' v
  put : ∀ W g v u x, T W v → CF W g u → T (putF W g x) v

def TF (n1 : Bool) (l1 : List Nat) (n2 : Bool) (l2 : List Nat) (W : World) (v : FV) : Prop := v.n1 = n1 ∧ v.m1 = l1.length ∧ v.n2 = n2 ∧ v.m2 = l2.length ∧ Sl W v.A1 l1 v.c1 ∧ Sl W v.A2 l2 v.c2

theorem TF.stab (n1 : Bool) (l1 : List Nat) (n2 : Bool) (l2 : List Nat) : Stab (TF n1 l1 n2 l2) :=
  ⟨fun _ _ _ h hb => ⟨h.1, h.2.1, h.2.2.1, h.2.2.2.1, h.2.2.2.2.1.below hb, h.2.2.2.2.2.below hb⟩, fun _ _ _ _ _ h q => ⟨h.1, h.2.1, h.2.2.1, h.2.2.2.1, h.2.2.2.2.1.setF q _ _ _ _, h.2.2.2.2.2.setF q _ _ _ _⟩⟩

structure PF (w : World) (ga gb : Nat) (va vb : FV) (Ta Tb : World → FV → Prop) (d0 d1 d2 d3 d4 d5 d6 d7 : Bool) (u1 u2 u3 u4 u5 u6 : Value) (W : World) (o5 o6 : Option (Nat × FV)) (x1 x2 : Option FV) : Prop where
  b : Below w.heap.size w W
  ka : CF W ga va
  kb : CF W gb vb
  k5 : ∀ g v, o5 = some (g, v) → CF W g v ∧ Ff W g
  k6 : ∀ g v, o6 = some (g, v) → CF W g v ∧ Ff W g
  s1 : ∀ v, x1 = some v → Ta W v
  s2 : ∀ v, x2 = some v → Tb W v
  p0 : d0 = true → u1 = va.val
  p2 : d2 = true → u3 = vb.val
  p1 : d1 = false → x1 = none
  q1 : d1 = true → ∃ v, x1 = some v ∧ u2 = v.val
  p3 : d3 = false → x2 = none
  q3 : d3 = true → ∃ v, x2 = some v ∧ u4 = v.val
  p4 : d4 = false → o5 = none
  q4 : d4 = true → ∃ g v, u5 = .pointer (some ⟨g, 0, none⟩) ∧ o5 = some (g, v) ∧ gb < g ∧ (d6 = false → v = zf) ∧ (d6 = true → x1 = some v)
  p5 : d5 = false → o6 = none
  q5 : d5 = true → ∃ g v, u6 = .pointer (some ⟨g, 0, none⟩) ∧ o6 = some (g, v) ∧ gb < g ∧ (d7 = false → v = zf) ∧ (d7 = true → x2 = some v)
  n6 : d6 = true → d1 = true
  n7 : d7 = true → d3 = true
  m6 : d6 = true → d4 = true
  m7 : d7 = true → d5 = true
  pd : ∀ g v g' v', o5 = some (g, v) → o6 = some (g', v') → g' ≠ g

section
variable {w W W' : World} {ga gb : Nat} {va vb : FV} {Ta Tb : World → FV → Prop} {d0 d1 d2 d3 d4 d5 d6 d7 : Bool} {u1 u2 u3 u4 u5 u6 : Value} {o5 o6 : Option (Nat × FV)} {x1 x2 : Option FV}
theorem PF.start (hb : Below w.heap.size w W) (ha : CF W ga va) (hb' : CF W gb vb) : PF w ga gb va vb Ta Tb false false false false false false false false u1 u2 u3 u4 u5 u6 W none none none none :=
  ⟨hb, ha, hb', fun _ _ h => (by cases h), fun _ _ h => (by cases h), fun _ h => (by cases h), fun _ h => (by cases h), fun h => (by cases h), fun h => (by cases h), fun _ => rfl, fun h => (by cases h), fun _ => rfl, fun h => (by cases h), fun _ => rfl, fun h => (by cases h), fun _ => rfl, fun h => (by cases h), fun h => (by cases h), fun h => (by cases h), fun h => (by cases h), fun h => (by cases h), fun _ _ _ _ h => (by cases h)⟩

theorem PF.load1 (h : PF w ga gb va vb Ta Tb d0 d1 d2 d3 d4 d5 d6 d7 u1 u2 u3 u4 u5 u6 W o5 o6 x1 x2) : PF w ga gb va vb Ta Tb true d1 d2 d3 d4 d5 d6 d7 va.val u2 u3 u4 u5 u6 W o5 o6 x1 x2 := { h with p0 := fun _ => rfl }

theorem PF.load2 (h : PF w ga gb va vb Ta Tb d0 d1 d2 d3 d4 d5 d6 d7 u1 u2 u3 u4 u5 u6 W o5 o6 x1 x2) : PF w ga gb va vb Ta Tb d0 d1 true d3 d4 d5 d6 d7 u1 u2 vb.val u4 u5 u6 W o5 o6 x1 x2 := { h with p2 := fun _ => rfl }

theorem PF.call1 (hTb : Stab Tb) (h : PF w ga gb va vb Ta Tb d0 false d2 d3 d4 d5 false d7 u1 u2 u3 u4 u5 u6 W o5 o6 x1 x2) (hb : Below W.heap.size W W') {v : FV} (hs : Ta W' v) :
    PF w ga gb va vb Ta Tb d0 true d2 d3 d4 d5 false d7 u1 v.val u3 u4 u5 u6 W' o5 o6 (some v) x2 :=
  { b := below_mono h.b hb, ka := h.ka.keep hb, kb := h.kb.keep hb, k5 := fun g v e => ⟨(h.k5 g v e).1.keep hb, Ff.keep (h.k5 g v e).2 (h.k5 g v e).1 hb⟩, k6 := fun g v e => ⟨(h.k6 g v e).1.keep hb, Ff.keep (h.k6 g v e).2 (h.k6 g v e).1 hb⟩, s1 := fun v e => (by cases e; exact hs), s2 := fun v e => hTb.below _ _ _ (h.s2 v e) hb, p0 := h.p0, p2 := h.p2, p1 := fun h => (by cases h), q1 := fun _ => ⟨v, rfl, rfl⟩, p3 := h.p3, q3 := h.q3, p4 := h.p4, q4 := fun e => (by
      obtain ⟨g, v, a, b, c, d, _⟩ := h.q4 e
      exact ⟨g, v, a, b, c, d, fun h => (by cases h)⟩), p5 := h.p5, q5 := h.q5, n6 := fun h => (by cases h), n7 := h.n7, m6 := fun h => (by cases h), m7 := h.m7, pd := h.pd }

theorem PF.call2 (hTa : Stab Ta) (h : PF w ga gb va vb Ta Tb d0 d1 d2 false d4 d5 d6 false u1 u2 u3 u4 u5 u6 W o5 o6 x1 x2) (hb : Below W.heap.size W W') {v : FV} (hs : Tb W' v) :
    PF w ga gb va vb Ta Tb d0 d1 d2 true d4 d5 d6 false u1 u2 u3 v.val u5 u6 W' o5 o6 x1 (some v) :=
  { b := below_mono h.b hb, ka := h.ka.keep hb, kb := h.kb.keep hb, k5 := fun g v e => ⟨(h.k5 g v e).1.keep hb, Ff.keep (h.k5 g v e).2 (h.k5 g v e).1 hb⟩, k6 := fun g v e => ⟨(h.k6 g v e).1.keep hb, Ff.keep (h.k6 g v e).2 (h.k6 g v e).1 hb⟩, s1 := fun v e => hTa.below _ _ _ (h.s1 v e) hb, s2 := fun v e => (by cases e; exact hs), p0 := h.p0, p2 := h.p2, p1 := h.p1, q1 := h.q1, p3 := fun h => (by cases h), q3 := fun _ => ⟨v, rfl, rfl⟩, p4 := h.p4, q4 := h.q4, p5 := h.p5, q5 := fun e => (by
      obtain ⟨g, v, a, b, c, d, _⟩ := h.q5 e
      exact ⟨g, v, a, b, c, d, fun h => (by cases h)⟩), n6 := h.n6, n7 := fun h => (by cases h), m6 := h.m6, m7 := fun h => (by cases h), pd := h.pd }

theorem PF.alloc5 (hTa : Stab Ta) (hTb : Stab Tb) (h : PF w ga gb va vb Ta Tb d0 d1 d2 d3 false d5 false d7 u1 u2 u3 u4 u5 u6 W o5 o6 x1 x2) :
    PF w ga gb va vb Ta Tb d0 d1 d2 d3 true d5 false d7 u1 u2 u3 u4 (.pointer (some ⟨W.heap.size, 0, none⟩)) u6 (W.alloc zo) (some (W.heap.size, zf)) o6 x1 x2 :=
  { b := below_mono h.b (blw1 _ _), ka := h.ka.keep (blw1 _ _), kb := h.kb.keep (blw1 _ _), k5 := fun g v e => (by cases e; exact ⟨Cf.fresh rfl _ _ _ _ _ _ _ _ _, Ff.fresh rfl _ _⟩), k6 := fun g v e => ⟨(h.k6 g v e).1.keep (blw1 _ _), Ff.keep (h.k6 g v e).2 (h.k6 g v e).1 (blw1 _ _)⟩, s1 := fun v e => hTa.below _ _ _ (h.s1 v e) (blw1 _ _), s2 := fun v e => hTb.below _ _ _ (h.s2 v e) (blw1 _ _), p0 := h.p0, p2 := h.p2, p1 := h.p1, q1 := h.q1, p3 := h.p3, q3 := h.q3, p4 := fun h => (by cases h), q4 := fun _ => ⟨W.heap.size, _, rfl, rfl, lt_of_cell h.kb.1, fun _ => rfl, fun h => (by cases h)⟩, p5 := h.p5, q5 := h.q5, n6 := fun h => (by cases h), n7 := h.n7, m6 := fun h => (by cases h), m7 := h.m7, pd := fun g v g' v' e1 e2 => (by
      cases e1
      have := lt_of_cell (h.k6 _ _ e2).1.1
      simp at this
      omega) }

theorem PF.alloc6 (hTa : Stab Ta) (hTb : Stab Tb) (h : PF w ga gb va vb Ta Tb d0 d1 d2 d3 d4 false d6 false u1 u2 u3 u4 u5 u6 W o5 o6 x1 x2) :
    PF w ga gb va vb Ta Tb d0 d1 d2 d3 d4 true d6 false u1 u2 u3 u4 u5 (.pointer (some ⟨W.heap.size, 0, none⟩)) (W.alloc zo) o5 (some (W.heap.size, zf)) x1 x2 :=
  { b := below_mono h.b (blw1 _ _), ka := h.ka.keep (blw1 _ _), kb := h.kb.keep (blw1 _ _), k5 := fun g v e => ⟨(h.k5 g v e).1.keep (blw1 _ _), Ff.keep (h.k5 g v e).2 (h.k5 g v e).1 (blw1 _ _)⟩, k6 := fun g v e => (by cases e; exact ⟨Cf.fresh rfl _ _ _ _ _ _ _ _ _, Ff.fresh rfl _ _⟩), s1 := fun v e => hTa.below _ _ _ (h.s1 v e) (blw1 _ _), s2 := fun v e => hTb.below _ _ _ (h.s2 v e) (blw1 _ _), p0 := h.p0, p2 := h.p2, p1 := h.p1, q1 := h.q1, p3 := h.p3, q3 := h.q3, p4 := h.p4, q4 := h.q4, p5 := fun h => (by cases h), q5 := fun _ => ⟨W.heap.size, _, rfl, rfl, lt_of_cell h.kb.1, fun _ => rfl, fun h => (by cases h)⟩, n6 := h.n6, n7 := fun h => (by cases h), m6 := h.m6, m7 := fun h => (by cases h), pd := fun g v g' v' e1 e2 => (by
      cases e2
      have := lt_of_cell (h.k5 _ _ e1).1.1
      simp at this
      omega) }

theorem PF.store5 (hTa : Stab Ta) (hTb : Stab Tb) (hab : ga ≤ gb) (hw : w.heap.size ≤ gb) (h : PF w ga gb va vb Ta Tb d0 true d2 d3 true d5 false d7 u1 u2 u3 u4 u5 u6 W o5 o6 x1 x2) :
    ∃ g v, u5 = .pointer (some ⟨g, 0, none⟩) ∧ u2 = v.val ∧ CF W g zf ∧ Ff W g ∧ PF w ga gb va vb Ta Tb d0 true d2 d3 true d5 true d7 u1 u2 u3 u4 u5 u6 (putF W g v) (some (g, v)) o6 x1 x2 := by
  obtain ⟨v, rfl, rfl⟩ := h.q1 rfl
  obtain ⟨g, z, rfl, rfl, hg, hz, _⟩ := h.q4 rfl
  obtain rfl := hz rfl
  have q := h.k5 _ _ rfl
  refine ⟨g, v, rfl, rfl, q.1, q.2, ?_⟩
  exact { b := below_setF h.b (by omega) _ _ _ _, ka := h.ka.put (by omega), kb := h.kb.put (by omega), k5 := fun g' v' e => (by cases e; exact ⟨CF.new q.1, ff_put q.2⟩), k6 := fun g' v' e => ⟨(h.k6 g' v' e).1.put (h.pd _ _ _ _ rfl e), ff_put (h.k6 g' v' e).2⟩, s1 := fun u e => hTa.put _ _ _ _ _ (h.s1 u e) q.1, s2 := fun u e => hTb.put _ _ _ _ _ (h.s2 u e) q.1, p0 := h.p0, p2 := h.p2, p1 := h.p1, q1 := fun _ => ⟨v, rfl, rfl⟩, p3 := h.p3, q3 := h.q3, p4 := fun h => (by cases h), q4 := fun _ => ⟨g, _, rfl, rfl, hg, fun h => (by cases h), fun _ => rfl⟩, p5 := h.p5, q5 := h.q5, n6 := fun _ => rfl, n7 := h.n7, m6 := fun _ => rfl, m7 := h.m7, pd := fun g v g' v' e1 e2 => (by
      cases e1
      exact h.pd _ _ _ _ rfl e2) }

theorem PF.store6 (hTa : Stab Ta) (hTb : Stab Tb) (hab : ga ≤ gb) (hw : w.heap.size ≤ gb) (h : PF w ga gb va vb Ta Tb d0 d1 d2 true d4 true d6 false u1 u2 u3 u4 u5 u6 W o5 o6 x1 x2) :
    ∃ g v, u6 = .pointer (some ⟨g, 0, none⟩) ∧ u4 = v.val ∧ CF W g zf ∧ Ff W g ∧ PF w ga gb va vb Ta Tb d0 d1 d2 true d4 true d6 true u1 u2 u3 u4 u5 u6 (putF W g v) o5 (some (g, v)) x1 x2 := by
  obtain ⟨v, rfl, rfl⟩ := h.q3 rfl
  obtain ⟨g, z, rfl, rfl, hg, hz, _⟩ := h.q5 rfl
  obtain rfl := hz rfl
  have q := h.k6 _ _ rfl
  refine ⟨g, v, rfl, rfl, q.1, q.2, ?_⟩
  exact { b := below_setF h.b (by omega) _ _ _ _, ka := h.ka.put (by omega), kb := h.kb.put (by omega), k5 := fun g' v' e => ⟨(h.k5 g' v' e).1.put (h.pd _ _ _ _ e rfl).symm, ff_put (h.k5 g' v' e).2⟩, k6 := fun g' v' e => (by cases e; exact ⟨CF.new q.1, ff_put q.2⟩), s1 := fun u e => hTa.put _ _ _ _ _ (h.s1 u e) q.1, s2 := fun u e => hTb.put _ _ _ _ _ (h.s2 u e) q.1, p0 := h.p0, p2 := h.p2, p1 := h.p1, q1 := h.q1, p3 := h.p3, q3 := fun _ => ⟨v, rfl, rfl⟩, p4 := h.p4, q4 := h.q4, p5 := fun h => (by cases h), q5 := fun _ => ⟨g, _, rfl, rfl, hg, fun h => (by cases h), fun _ => rfl⟩, n6 := h.n6, n7 := fun _ => rfl, m6 := h.m6, m7 := fun _ => rfl, pd := fun g v g' v' e1 e2 => (by
      cases e2
      exact h.pd _ _ _ _ e1 rfl) }

theorem PF.done (h : PF w ga gb va vb Ta Tb d0 d1 d2 d3 true true true true u1 u2 u3 u4 u5 u6 W o5 o6 x1 x2) :
    ∃ g5 g6 v5 v6, u5 = .pointer (some ⟨g5, 0, none⟩) ∧ u6 = .pointer (some ⟨g6, 0, none⟩) ∧ gb < g5 ∧ gb < g6 ∧ CF W g5 v5 ∧ CF W g6 v6 ∧ Ta W v5 ∧ Tb W v6 := by
  obtain ⟨g5, v5, rfl, rfl, h5, _, k5⟩ := h.q4 rfl
  obtain ⟨g6, v6, rfl, rfl, h6, _, k6⟩ := h.q5 rfl
  exact ⟨g5, g6, v5, v6, rfl, rfl, h5, h6, (h.k5 _ _ rfl).1, (h.k6 _ _ rfl).1, h.s1 _ (k5 rfl), h.s2 _ (k6 rfl)⟩

end
section
variable {K : Act → World → Prop} {Q : Exit → Act → World → Prop} {a : Act} {W : World} {d : Option Tmp} {ty : TypeId} {pos : String} {after : Array Edge} {s s' g : Nat} {v : FV}
theorem sf_load (ev : a.eval (.tmp s) = .pointer (some ⟨g, 0, none⟩)) (hk : CF W g v) (h : K (a.put d v.val) W) :
    Oper.wp Try.prog ⟨d, .load 26 (.tmp s), ty, pos, after, none⟩ a W K Q := by
  obtain ⟨q0, q1, q2, q3⟩ := hk
  have e := ev_rawF ev
  clear ev
  unfold Oper.wp
  go_simp
  exact h

set_option maxRecDepth 100000 in
theorem sf_call {n1 n2 : Bool} {l1 l2 : List Nat} (ev : a.eval (.tmp s) = v.val) (hs : TF n1 l1 n2 l2 W v) (h : ∀ V u, TF n1 l1 n2 l2 V u → Below W.heap.size W V → K (a.put d u.val) V) :
    Oper.wp Try.prog ⟨d, .call { callee := .value (.func 13), args := #[.tmp s], argTypes := #[26] }, ty, pos, after, none⟩ a W K Q := by
  obtain ⟨n1', A1, m1, c1, n2', A2, m2, c2⟩ := v
  obtain ⟨e1, e2, e3, e4, s1, s2⟩ := hs
  simp only at e1 e2 e3 e4 s1 s2
  subst e1 e2 e3 e4
  have e := ev_rawF ev
  clear ev
  unfold Oper.wp
  go_simp
  refine (ftwin_any n1' n2' A1 A2 l1 l2 c1 c2 W s1 s2).mono ?_
  rintro e V ⟨A3, c3, A4, c4, rfl, hs3, hs4, hb⟩
  exact h V ⟨n1', A3, l1.length, c3, n2', A4, l2.length, c4⟩ ⟨rfl, rfl, rfl, rfl, hs3, hs4⟩ hb

theorem sf_alloc (h : K (a.put d (.pointer (some ⟨W.heap.size, 0, none⟩))) (W.alloc zo)) :
    Oper.wp Try.prog ⟨d, .alloc 26, ty, pos, after, none⟩ a W K Q := by
  unfold Oper.wp
  go_simp
  exact h

theorem sf_store (ev : a.eval (.tmp s) = .pointer (some ⟨g, 0, none⟩)) (ev' : a.eval (.tmp s') = v.val) (hk : CF W g zf) (hf : Ff W g) (h : K a (putF W g v)) :
    Oper.wp Try.prog ⟨none, .store 26 (.tmp s) (.tmp s'), ty, pos, after, none⟩ a W K Q := by
  obtain ⟨q0, q1, q2, q3⟩ := hk
  obtain ⟨f0, f1, f2, f3⟩ := hf
  have e := ev_rawF ev
  have e' := ev_rawF ev'
  clear ev ev'
  simp only at q0 q1 q2 q3
  unfold Oper.wp
  go_simp
  exact h

end
/-- What holds of the frame and the memory behind the steps done. -/
def PairF (a0 : Act) (w : World) (ga gb s1 s2 s3 s4 s5 s6 : Nat) (va vb : FV) (Ta Tb : World → FV → Prop) (l : Array Bool) (a : Act) (W : World) : Prop :=
  ∃ (d0 d1 d2 d3 d4 d5 d6 d7 : Bool) (u1 u2 u3 u4 u5 u6 : Value) (o5 o6 : Option (Nat × FV)) (x1 x2 : Option FV), l = #[d0, d1, d2, d3, d4, d5, d6, d7] ∧ a = put6 a0 s1 s2 s3 s4 s5 s6 u1 u2 u3 u4 u5 u6 ∧ PF w ga gb va vb Ta Tb d0 d1 d2 d3 d4 d5 d6 d7 u1 u2 u3 u4 u5 u6 W o5 o6 x1 x2

set_option maxRecDepth 100000 in
set_option maxHeartbeats 2000000 in
theorem region_pairF {id : Nat} {ops : Array Oper} {Q : Exit → Act → World → Prop} {a0 : Act} {w W0 : World} {sa sb s1 s2 s3 s4 s5 s6 ga gb : Nat} {va vb : FV} {na1 nb1 na2 nb2 : Bool} {la1 lb1 la2 lb2 : List Nat}
    (hsz : ops.size = 8) (hord : ordered ops = true)
    (h0 : OpIsF ops 0 (some s1) (.load 26 (.tmp sa)) [])
    (h1 : OpIsF ops 1 (some s2) (.call { callee := .value (.func 13), args := #[.tmp s1], argTypes := #[26] }) [0])
    (h2 : OpIsF ops 2 (some s3) (.load 26 (.tmp sb)) [])
    (h3 : OpIsF ops 3 (some s4) (.call { callee := .value (.func 13), args := #[.tmp s3], argTypes := #[26] }) [2])
    (h4 : OpIsF ops 4 (some s5) (.alloc 26) [])
    (h5 : OpIsF ops 5 (some s6) (.alloc 26) [])
    (h6 : OpIsF ops 6 none (.store 26 (.tmp s5) (.tmp s2)) [1, 4])
    (h7 : OpIsF ops 7 none (.store 26 (.tmp s6) (.tmp s4)) [3, 5])
    (hsa : sa ≠ s1 ∧ sa ≠ s2 ∧ sa ≠ s3 ∧ sa ≠ s4 ∧ sa ≠ s5 ∧ sa ≠ s6) (hsb : sb ≠ s1 ∧ sb ≠ s2 ∧ sb ≠ s3 ∧ sb ≠ s4 ∧ sb ≠ s5 ∧ sb ≠ s6)
    (hd : [s1, s2, s3, s4, s5, s6].Nodup) (hs : ∀ s ∈ [s1, s2, s3, s4, s5, s6], s < a0.tmps.size)
    (hea : a0.eval (.tmp sa) = .pointer (some ⟨ga, 0, none⟩)) (heb : a0.eval (.tmp sb) = .pointer (some ⟨gb, 0, none⟩))
    (hs0 : put6 a0 s1 s2 s3 s4 s5 s6 undef undef undef undef undef undef = a0)
    (hSa : TF na1 la1 na2 la2 w va) (hSb : TF nb1 lb1 nb2 lb2 w vb) (hb : Below w.heap.size w W0) (hka : CF W0 ga va) (hkb : CF W0 gb vb) (hab : ga ≤ gb) (hw : w.heap.size ≤ gb)
    (hQ : ∀ u1 u2 u3 u4 g5 g6 v5 v6 W, gb < g5 → gb < g6 → Below w.heap.size w W → CF W ga va → CF W gb vb → CF W g5 v5 → CF W g6 v6 → TF na1 la1 na2 la2 W v5 → TF nb1 lb1 nb2 lb2 W v6 →
      Q .normal (put6 a0 s1 s2 s3 s4 s5 s6 u1 u2 u3 u4 (.pointer (some ⟨g5, 0, none⟩)) (.pointer (some ⟨g6, 0, none⟩))) W) :
    (Code.region id ops true).wp Try.prog Q a0 W0 := by
  have hTa := TF.stab na1 la1 na2 la2
  have hTb := TF.stab nb1 lb1 nb2 lb2
  refine region_namedF (by kernel_rfl) ?_
  have hd1 : (s2 ≠ s1 ∧ s3 ≠ s1 ∧ s4 ≠ s1 ∧ s5 ≠ s1 ∧ s6 ≠ s1) ∧ (s3 ≠ s2 ∧ s4 ≠ s2 ∧ s5 ≠ s2 ∧ s6 ≠ s2) ∧ (s4 ≠ s3 ∧ s5 ≠ s3 ∧ s6 ≠ s3) ∧ (s5 ≠ s4 ∧ s6 ≠ s4) ∧ s6 ≠ s5 := by
    simp at hd
    omega
  obtain ⟨⟨a1, a2, a3, a4, a5⟩, ⟨b2, b3, b4, b5⟩, ⟨c3, c4, c5⟩, ⟨e4, e5⟩, f5⟩ := hd1
  have hs1 := hs s1 (by simp)
  have hs2 := hs s2 (by simp)
  have hs3 := hs s3 (by simp)
  have hs4 := hs s4 (by simp)
  have hs5 := hs s5 (by simp)
  have hs6 := hs s6 (by simp)
  clear hs hd
  refine wpAny_inv (I := PairF a0 w ga gb s1 s2 s3 s4 s5 s6 va vb (TF na1 la1 na2 la2) (TF nb1 lb1 nb2 lb2)) ?sz ?st ?en _ _ _ _ ?ct ?init
  case sz =>
    rintro l a W ⟨d0, d1, d2, d3, d4, d5, d6, d7, u1, u2, u3, u4, u5, u6, o5, o6, x1, x2, rfl, rfl, hI⟩
    rw [hsz]; rfl
  case ct => rw [hsz]; decide
  case init => exact ⟨false, false, false, false, false, false, false, false, undef, undef, undef, undef, undef, undef, none, none, none, none, by rw [hsz]; rfl, hs0.symm, PF.start hb.drew (Cf.drew hka) (Cf.drew hkb)⟩
  case en =>
    rintro l a W ⟨d0, d1, d2, d3, d4, d5, d6, d7, u1, u2, u3, u4, u5, u6, o5, o6, x1, x2, rfl, rfl, hI⟩ hr
    have hall := ready_nil (by rw [hsz]; rfl) hord hr
    rw [hsz] at hall
    obtain rfl : d4 = true := hall 4 (by decide)
    obtain rfl : d5 = true := hall 5 (by decide)
    obtain rfl : d6 = true := hall 6 (by decide)
    obtain rfl : d7 = true := hall 7 (by decide)
    obtain ⟨g5, g6, v5, v6, rfl, rfl, l5, l6, hc5, hc6, ht5, ht6⟩ := hI.done
    exact hQ _ _ _ _ _ _ _ _ _ l5 l6 hI.b hI.ka hI.kb hc5 hc6 ht5 ht6
  case st =>
    rintro l a W i ⟨d0, d1, d2, d3, d4, d5, d6, d7, u1, u2, u3, u4, u5, u6, o5, o6, x1, x2, rfl, rfl, hI⟩ hi
    have hr := ready_spec hi
    have h8 := hr.1
    rw [hsz] at h8
    have hc : i = 0 ∨ i = 1 ∨ i = 2 ∨ i = 3 ∨ i = 4 ∨ i = 5 ∨ i = 6 ∨ i = 7 := by omega
    clear hi h8
    rcases hc with rfl | rfl | rfl | rfl | rfl | rfl | rfl | rfl
    · obtain ⟨hd, hws, ty, pos, after, hi⟩ := h0.take hr
      obtain rfl : d0 = false := hd
      refine wpOp_noneF hi rfl ?_
      clear hr hws
      have e1 : (put6 a0 s1 s2 s3 s4 s5 s6 u1 u2 u3 u4 u5 u6).eval (.tmp sa) = .pointer (some ⟨ga, 0, none⟩) := (put6_ne hsa _ _ _ _ _ _).trans hea
      have e2 : CF W ga va := hI.ka
      have e3 : PairF a0 w ga gb s1 s2 s3 s4 s5 s6 va vb (TF na1 la1 na2 la2) (TF nb1 lb1 nb2 lb2) (#[false, d1, d2, d3, d4, d5, d6, d7].setIfInBounds 0 true) ((put6 a0 s1 s2 s3 s4 s5 s6 u1 u2 u3 u4 u5 u6).put (some s1) va.val) W := ⟨true, d1, d2, d3, d4, d5, d6, d7, va.val, u2, u3, u4, u5, u6, o5, o6, x1, x2, rfl, put6_put1 a1 a2 a3 a4 a5 _ _ _ _ _ _ _, hI.load1⟩
      generalize put6 a0 s1 s2 s3 s4 s5 s6 u1 u2 u3 u4 u5 u6 = aa at *
      generalize PairF a0 w ga gb s1 s2 s3 s4 s5 s6 va vb (TF na1 la1 na2 la2) (TF nb1 lb1 nb2 lb2) (#[false, d1, d2, d3, d4, d5, d6, d7].setIfInBounds 0 true) = KK at *
      exact sf_load e1 e2 e3
    · obtain ⟨hd, hws, ty, pos, after, hi⟩ := h1.take hr
      obtain rfl : d1 = false := hd
      obtain rfl : d0 = true := hws 0 (by simp)
      obtain rfl := hI.p0 rfl
      obtain rfl : d6 = false := by
        cases d6 with
        | false => rfl
        | true => exact absurd (hI.n6 rfl) (by decide)
      refine wpOp_noneF hi rfl ?_
      clear hr hws
      have e1 : (put6 a0 s1 s2 s3 s4 s5 s6 va.val u2 u3 u4 u5 u6).eval (.tmp s1) = va.val := put6_ev1 a1 a2 a3 a4 a5 hs1 _ _ _ _ _ _
      have e2 : TF na1 la1 na2 la2 W va := hTa.below _ _ _ hSa hI.b
      have e3 : ∀ V uu, TF na1 la1 na2 la2 V uu → Below W.heap.size W V → PairF a0 w ga gb s1 s2 s3 s4 s5 s6 va vb (TF na1 la1 na2 la2) (TF nb1 lb1 nb2 lb2) (#[true, false, d2, d3, d4, d5, false, d7].setIfInBounds 1 true) ((put6 a0 s1 s2 s3 s4 s5 s6 va.val u2 u3 u4 u5 u6).put (some s2) uu.val) V := fun V uu hs' hb' => ⟨true, true, d2, d3, d4, d5, false, d7, va.val, uu.val, u3, u4, u5, u6, o5, o6, some uu, x2, rfl, put6_put2 b2 b3 b4 b5 _ _ _ _ _ _ _, PF.call1 hTb hI hb' hs'⟩
      generalize put6 a0 s1 s2 s3 s4 s5 s6 va.val u2 u3 u4 u5 u6 = aa at *
      generalize PairF a0 w ga gb s1 s2 s3 s4 s5 s6 va vb (TF na1 la1 na2 la2) (TF nb1 lb1 nb2 lb2) (#[true, false, d2, d3, d4, d5, false, d7].setIfInBounds 1 true) = KK at *
      exact sf_call e1 e2 e3
    · obtain ⟨hd, hws, ty, pos, after, hi⟩ := h2.take hr
      obtain rfl : d2 = false := hd
      refine wpOp_noneF hi rfl ?_
      clear hr hws
      have e1 : (put6 a0 s1 s2 s3 s4 s5 s6 u1 u2 u3 u4 u5 u6).eval (.tmp sb) = .pointer (some ⟨gb, 0, none⟩) := (put6_ne hsb _ _ _ _ _ _).trans heb
      have e2 : CF W gb vb := hI.kb
      have e3 : PairF a0 w ga gb s1 s2 s3 s4 s5 s6 va vb (TF na1 la1 na2 la2) (TF nb1 lb1 nb2 lb2) (#[d0, d1, false, d3, d4, d5, d6, d7].setIfInBounds 2 true) ((put6 a0 s1 s2 s3 s4 s5 s6 u1 u2 u3 u4 u5 u6).put (some s3) vb.val) W := ⟨d0, d1, true, d3, d4, d5, d6, d7, u1, u2, vb.val, u4, u5, u6, o5, o6, x1, x2, rfl, put6_put3 c3 c4 c5 _ _ _ _ _ _ _, hI.load2⟩
      generalize put6 a0 s1 s2 s3 s4 s5 s6 u1 u2 u3 u4 u5 u6 = aa at *
      generalize PairF a0 w ga gb s1 s2 s3 s4 s5 s6 va vb (TF na1 la1 na2 la2) (TF nb1 lb1 nb2 lb2) (#[d0, d1, false, d3, d4, d5, d6, d7].setIfInBounds 2 true) = KK at *
      exact sf_load e1 e2 e3
    · obtain ⟨hd, hws, ty, pos, after, hi⟩ := h3.take hr
      obtain rfl : d3 = false := hd
      obtain rfl : d2 = true := hws 2 (by simp)
      obtain rfl := hI.p2 rfl
      obtain rfl : d7 = false := by
        cases d7 with
        | false => rfl
        | true => exact absurd (hI.n7 rfl) (by decide)
      refine wpOp_noneF hi rfl ?_
      clear hr hws
      have e1 : (put6 a0 s1 s2 s3 s4 s5 s6 u1 u2 vb.val u4 u5 u6).eval (.tmp s3) = vb.val := put6_ev3 c3 c4 c5 hs3 _ _ _ _ _ _
      have e2 : TF nb1 lb1 nb2 lb2 W vb := hTb.below _ _ _ hSb hI.b
      have e3 : ∀ V uu, TF nb1 lb1 nb2 lb2 V uu → Below W.heap.size W V → PairF a0 w ga gb s1 s2 s3 s4 s5 s6 va vb (TF na1 la1 na2 la2) (TF nb1 lb1 nb2 lb2) (#[d0, d1, true, false, d4, d5, d6, false].setIfInBounds 3 true) ((put6 a0 s1 s2 s3 s4 s5 s6 u1 u2 vb.val u4 u5 u6).put (some s4) uu.val) V := fun V uu hs' hb' => ⟨d0, d1, true, true, d4, d5, d6, false, u1, u2, vb.val, uu.val, u5, u6, o5, o6, x1, some uu, rfl, put6_put4 e4 e5 _ _ _ _ _ _ _, PF.call2 hTa hI hb' hs'⟩
      generalize put6 a0 s1 s2 s3 s4 s5 s6 u1 u2 vb.val u4 u5 u6 = aa at *
      generalize PairF a0 w ga gb s1 s2 s3 s4 s5 s6 va vb (TF na1 la1 na2 la2) (TF nb1 lb1 nb2 lb2) (#[d0, d1, true, false, d4, d5, d6, false].setIfInBounds 3 true) = KK at *
      exact sf_call e1 e2 e3
    · obtain ⟨hd, hws, ty, pos, after, hi⟩ := h4.take hr
      obtain rfl : d4 = false := hd
      obtain rfl : d6 = false := by
        cases d6 with
        | false => rfl
        | true => exact absurd (hI.m6 rfl) (by decide)
      refine wpOp_noneF hi rfl ?_
      clear hr hws
      have e3 : PairF a0 w ga gb s1 s2 s3 s4 s5 s6 va vb (TF na1 la1 na2 la2) (TF nb1 lb1 nb2 lb2) (#[d0, d1, d2, d3, false, d5, false, d7].setIfInBounds 4 true) ((put6 a0 s1 s2 s3 s4 s5 s6 u1 u2 u3 u4 u5 u6).put (some s5) (.pointer (some ⟨W.heap.size, 0, none⟩))) (W.alloc zo) := ⟨d0, d1, d2, d3, true, d5, false, d7, u1, u2, u3, u4, (.pointer (some ⟨W.heap.size, 0, none⟩)), u6, some (W.heap.size, zf), o6, x1, x2, rfl, put6_put5 f5 _ _ _ _ _ _ _, PF.alloc5 hTa hTb hI⟩
      generalize put6 a0 s1 s2 s3 s4 s5 s6 u1 u2 u3 u4 u5 u6 = aa at *
      generalize PairF a0 w ga gb s1 s2 s3 s4 s5 s6 va vb (TF na1 la1 na2 la2) (TF nb1 lb1 nb2 lb2) (#[d0, d1, d2, d3, false, d5, false, d7].setIfInBounds 4 true) = KK at *
      exact sf_alloc e3
    · obtain ⟨hd, hws, ty, pos, after, hi⟩ := h5.take hr
      obtain rfl : d5 = false := hd
      obtain rfl : d7 = false := by
        cases d7 with
        | false => rfl
        | true => exact absurd (hI.m7 rfl) (by decide)
      refine wpOp_noneF hi rfl ?_
      clear hr hws
      have e3 : PairF a0 w ga gb s1 s2 s3 s4 s5 s6 va vb (TF na1 la1 na2 la2) (TF nb1 lb1 nb2 lb2) (#[d0, d1, d2, d3, d4, false, d6, false].setIfInBounds 5 true) ((put6 a0 s1 s2 s3 s4 s5 s6 u1 u2 u3 u4 u5 u6).put (some s6) (.pointer (some ⟨W.heap.size, 0, none⟩))) (W.alloc zo) := ⟨d0, d1, d2, d3, d4, true, d6, false, u1, u2, u3, u4, u5, (.pointer (some ⟨W.heap.size, 0, none⟩)), o5, some (W.heap.size, zf), x1, x2, rfl, put6_put6  _ _ _ _ _ _ _, PF.alloc6 hTa hTb hI⟩
      generalize put6 a0 s1 s2 s3 s4 s5 s6 u1 u2 u3 u4 u5 u6 = aa at *
      generalize PairF a0 w ga gb s1 s2 s3 s4 s5 s6 va vb (TF na1 la1 na2 la2) (TF nb1 lb1 nb2 lb2) (#[d0, d1, d2, d3, d4, false, d6, false].setIfInBounds 5 true) = KK at *
      exact sf_alloc e3
    · obtain ⟨hd, hws, ty, pos, after, hi⟩ := h6.take hr
      obtain rfl : d6 = false := hd
      obtain rfl : d1 = true := hws 1 (by simp)
      obtain rfl : d4 = true := hws 4 (by simp)
      obtain ⟨g, v, rfl, rfl, hk, hf, hI'⟩ := PF.store5 hTa hTb hab hw hI
      refine wpOp_noneF hi rfl ?_
      clear hr hws
      have e1 : (put6 a0 s1 s2 s3 s4 s5 s6 u1 v.val u3 u4 (.pointer (some ⟨g, 0, none⟩)) u6).eval (.tmp s5) = (.pointer (some ⟨g, 0, none⟩)) := put6_ev5 f5 hs5 _ _ _ _ _ _
      have e2 : (put6 a0 s1 s2 s3 s4 s5 s6 u1 v.val u3 u4 (.pointer (some ⟨g, 0, none⟩)) u6).eval (.tmp s2) = v.val := put6_ev2 b2 b3 b4 b5 hs2 _ _ _ _ _ _
      have e3 : PairF a0 w ga gb s1 s2 s3 s4 s5 s6 va vb (TF na1 la1 na2 la2) (TF nb1 lb1 nb2 lb2) (#[d0, true, d2, d3, true, d5, false, d7].setIfInBounds 6 true) (put6 a0 s1 s2 s3 s4 s5 s6 u1 v.val u3 u4 (.pointer (some ⟨g, 0, none⟩)) u6) (putF W g v) := ⟨d0, true, d2, d3, true, d5, true, d7, u1, v.val, u3, u4, (.pointer (some ⟨g, 0, none⟩)), u6, some (g, v), o6, x1, x2, rfl, rfl, hI'⟩
      generalize put6 a0 s1 s2 s3 s4 s5 s6 u1 v.val u3 u4 (.pointer (some ⟨g, 0, none⟩)) u6 = aa at *
      generalize PairF a0 w ga gb s1 s2 s3 s4 s5 s6 va vb (TF na1 la1 na2 la2) (TF nb1 lb1 nb2 lb2) (#[d0, true, d2, d3, true, d5, false, d7].setIfInBounds 6 true) = KK at *
      exact sf_store e1 e2 hk hf e3
    · obtain ⟨hd, hws, ty, pos, after, hi⟩ := h7.take hr
      obtain rfl : d7 = false := hd
      obtain rfl : d3 = true := hws 3 (by simp)
      obtain rfl : d5 = true := hws 5 (by simp)
      obtain ⟨g, v, rfl, rfl, hk, hf, hI'⟩ := PF.store6 hTa hTb hab hw hI
      refine wpOp_noneF hi rfl ?_
      clear hr hws
      have e1 : (put6 a0 s1 s2 s3 s4 s5 s6 u1 u2 u3 v.val u5 (.pointer (some ⟨g, 0, none⟩))).eval (.tmp s6) = (.pointer (some ⟨g, 0, none⟩)) := put6_ev6 hs6 _ _ _ _ _ _
      have e2 : (put6 a0 s1 s2 s3 s4 s5 s6 u1 u2 u3 v.val u5 (.pointer (some ⟨g, 0, none⟩))).eval (.tmp s4) = v.val := put6_ev4 e4 e5 hs4 _ _ _ _ _ _
      have e3 : PairF a0 w ga gb s1 s2 s3 s4 s5 s6 va vb (TF na1 la1 na2 la2) (TF nb1 lb1 nb2 lb2) (#[d0, d1, d2, true, d4, true, d6, false].setIfInBounds 7 true) (put6 a0 s1 s2 s3 s4 s5 s6 u1 u2 u3 v.val u5 (.pointer (some ⟨g, 0, none⟩))) (putF W g v) := ⟨d0, d1, d2, true, d4, true, d6, true, u1, u2, u3, v.val, u5, (.pointer (some ⟨g, 0, none⟩)), o5, some (g, v), x1, x2, rfl, rfl, hI'⟩
      generalize put6 a0 s1 s2 s3 s4 s5 s6 u1 u2 u3 v.val u5 (.pointer (some ⟨g, 0, none⟩)) = aa at *
      generalize PairF a0 w ga gb s1 s2 s3 s4 s5 s6 va vb (TF na1 la1 na2 la2) (TF nb1 lb1 nb2 lb2) (#[d0, d1, d2, true, d4, true, d6, false].setIfInBounds 7 true) = KK at *
      exact sf_store e1 e2 hk hf e3

end Go.Proofs.Ythlfidbhldbedaa

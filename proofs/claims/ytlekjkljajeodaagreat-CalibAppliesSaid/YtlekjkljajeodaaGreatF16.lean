/- Walks: frac.Floor, Round. -/
import Derived.Test.YtlekjkljajeodaaGreatF3
import Derived.Test.YtlekjkljajeodaaGreatFMath
import Derived.Deep.RegionHeld3
namespace Go.Proofs.YtlekjkljajeodaaGreat
open Go.RowKit
attribute [local go_sem ↓] Go.wp_at_zero Go.wp_at_succ
theorem u32_and1 (k : Nat) (hk : k < 4294967296) : bits .and .u32 (k : Int) 1 = ((k % 2 : Nat) : Int) := by
  have h1 : (BitVec.ofInt 32 1).toNat = 2 ^ 1 - 1 := by decide
  have key : (BitVec.ofInt 32 (k : Int) &&& BitVec.ofInt 32 1).toNat = ((k : Int) % ((2 ^ 32 : Nat) : Int)).toNat % 2 ^ 1 := by
    rw [BitVec.toNat_and, BitVec.toNat_ofInt, h1, Nat.and_two_pow_sub_one_eq_mod]
  show IntKind.u32.wrap ((BitVec.ofInt 32 (k : Int) &&& BitVec.ofInt 32 1).toNat : Nat) = _
  rw [key, IntKind.wrap_u32]
  omega

theorem C1.new {w : World} {g : Nat} {v : Value} (h : C1 w g v) (u : Value) : C1 (w.setCell ⟨g, 0, none⟩ u) g u := ⟨World.cell?_setCell_same _ _ _ h.1, (World.frozen?_setCell _ _ _ _).trans h.2⟩

theorem C1.set1 {w : World} {g g' : Nat} {v : Value} (h : C1 w g v) (hne : g ≠ g') (u : Value) : C1 (w.setCell ⟨g', 0, none⟩ u) g v := ⟨(World.cell?_setCell_other _ _ _ _ (by intro e; exact hne (congrArg Addr.block e).symm)).trans h.1, (World.frozen?_setCell _ _ _ _).trans h.2⟩

theorem Cf.set1 {w : World} {g g' : Nat} {n1 n2 : Bool} {A1 A2 : Option Addr} {m1 c1 m2 c2 : Nat} (h : Cf w g n1 A1 m1 c1 n2 A2 m2 c2) (hne : g ≠ g') (u : Value) : Cf (w.setCell ⟨g', 0, none⟩ u) g n1 A1 m1 c1 n2 A2 m2 c2 := by
  have k : ∀ i, (w.setCell ⟨g', 0, none⟩ u).cell? ⟨g, i, none⟩ = w.cell? ⟨g, i, none⟩ := fun i => World.cell?_setCell_other _ _ _ _ (by intro e; exact hne (congrArg Addr.block e).symm)
  exact ⟨(k 0).trans h.1, (k 1).trans h.2.1, (k 2).trans h.2.2.1, (k 3).trans h.2.2.2⟩

theorem Fw.set1 {w : World} {g g' : Nat} (h : Fw w g) (u : Value) : Fw (w.setCell ⟨g', 0, none⟩ u) g := ⟨(World.frozen?_setCell _ _ _ _).trans h.1, (World.frozen?_setCell _ _ _ _).trans h.2⟩

theorem wres_fall {w w2 : World} {g : Nat} (k : Int) (hb : Below w.heap.size w w2) (hg : w.heap.size ≤ g) (v : Value) (o : Obj) :
    WRes ((false, []), k) w (.returned (.tuple #[.agg #[.bool false, .slice none 0 0], .int .i64 k])) ((w2.setCell ⟨g, 0, none⟩ v).alloc o) :=
  ⟨none, 0, rfl, Sl.nil _ _ _, below_mono (hb.setCell (p := ⟨g, 0, none⟩) hg v) (blw1 _ _)⟩

def froundS (n1 : Bool) (l1 : List Nat) (n2 : Bool) (l2 : List Nat) : (Bool × List Nat) × Int := if badF n1 l1 n2 l2 then ((false, []), 8) else (wOf (roundZ (zv n1 l1) (zv n2 l2)), 0)

set_option maxRecDepth 100000 in
set_option maxHeartbeats 2000000 in
theorem fround_any (n1 n2 : Bool) (A1 A2 : Option Addr) (l1 l2 : List Nat) (c1 c2 : Nat) (hfit : badF n1 l1 n2 l2 = false → fitZ ((zv n1 l1).fmod (zv n2 l2) + (zv n1 l1).fmod (zv n2 l2))) (w : World) (hs1 : Sl w A1 l1 c1) (hs2 : Sl w A2 l2 c2) :
    Calls Tryz.prog 108 #[.agg #[.bool n1, .slice A1 l1.length c1, .bool n2, .slice A2 l2.length c2]] w (WRes (froundS n1 l1 n2 l2) w) := by
  have S1 := Lib.hid hs1
  have S2 := Lib.hid hs2
  have B : Hid (Below w.heap.size w w) := Below.refl _ _
  cases hb : badF n1 l1 n2 l2 with
  | true =>
    have hr : froundS n1 l1 n2 l2 = ((false, []), 8) := by unfold froundS; rw [hb]; rfl
    have e1 : Hid (chkF n1 l1 n2 l2 = 8) := by unfold chkF; rw [hb]; rfl
    rw [hr]
    clear hs1 hs2 hr hb hfit
    go_enter_defers Tryz.func108, Tryz.ntmps108
    go_wp2_with fail
    refine (fcheck_any n1 n2 A1 A2 l1 l2 c1 c2 _ (((S1.out.alloc _).alloc _).alloc _) (((S2.out.alloc _).alloc _).alloc _)).mono ?_
    rw [e1.out]
    rintro e w1 ⟨rfl, hb⟩
    replace S1 := kS3 S1 hb
    replace S2 := kS3 S2 hb
    have Fo : Hid (Fw w1 (w.heap.size + 1)) := Fw.keep (Fw.keep (Fw.fresh (by simp) _ _) (Cw.fresh (by simp) _ _ _ _ _) (blw1 _ _)) (Cw.keep (Cw.fresh (by simp) _ _ _ _ _) (blw1 _ _)) hb
    have Ka : Hid (Cf w1 w.heap.size n1 A1 l1.length c1 n2 A2 l2.length c2) := Cf.keep (Cf.keep (Cf.keep (Cf.fresh (by simp) _ _ _ _ _ _ _ _ _) (blw1 _ _)) (blw1 _ _)) hb
    have Ko : Hid (Cw w1 (w.heap.size + 1) false none 0 0) := Cw.keep (Cw.keep (Cw.fresh (by simp) _ _ _ _ _) (blw1 _ _)) hb
    have Ke : Hid (C1 w1 (w.heap.size + 1 + 1) (.int .i64 0)) := C1.keep (C1.fresh (by simp) _ _) hb
    replace B := kB3 B hb
    clear hb
    obtain ⟨qa0, qa1, qa2, qa3⟩ := Ka.out
    have hza := lF Ka
    have hzo := lW Ko
    have hze := lC Ke
    go_wp2_with fail
    refine (want_bad 8 (by decide) _).mono ?_
    rintro e w2 ⟨rfl, hb⟩
    clear qa0 qa1 qa2 qa3
    replace S1 := kS S1 hb
    replace S2 := kS S2 hb
    replace Fo := kFw Fo Ko hb
    replace Ka := kF Ka hb
    replace Ko := kW Ko hb
    replace Ke := kC Ke hb
    replace B := kB B hb
    clear hb
    go_wp2_with fail
    refine leaves_cons (f := 100) (args := #[.pointer (some ⟨w.heap.size + 1 + 1, 0, none⟩)]) (by simp) (by simp [go_sem]) ?_
    refine (catch_fall (w.heap.size + 1 + 1) 0 8 [] _ Ke.out).mono ?_
    rintro e u' w'' ⟨rfl, rfl, ob, rfl⟩
    obtain ⟨qo0, qo1⟩ := Ko.out
    obtain ⟨fo0, fo1⟩ := Fo.out
    have hze2 : w.heap.size + 1 < w2.heap.size := lt_of_cell (a := ⟨w.heap.size + 1, 0, none⟩) qo0
    have hze3 := lC Ke
    simp [Leaves, settle, results, Tryz.results108, go_sem, qo0, qo1, hze2, hze3, Ke.out.1]
    exact wres_fall 8 B.out (by omega) _ _
  | false =>
    have e1 : Hid (chkF n1 l1 n2 l2 = 0) := by unfold chkF; rw [hb]; rfl
    have va := vf_of hs1.lim hs2.lim hb
    have ft := hfit hb
    have hr : froundS n1 l1 n2 l2 = (wOf (roundZ (zv n1 l1) (zv n2 l2)), 0) := by unfold froundS; rw [hb]; rfl
    rw [hr]
    obtain ⟨hx, hy, hp, _⟩ := va
    have fr := round_fit hp hx.2
    unfold roundZ at fr ⊢
    generalize zv n1 l1 = x at *
    generalize zv n2 l2 = y at *
    obtain ⟨nq, lq, hq⟩ : ∃ n l, wOf (x.fdiv y) = (n, l) := ⟨_, _, rfl⟩
    obtain ⟨nr, lr, hm⟩ : ∃ n l, wOf (x.fmod y) = (n, l) := ⟨_, _, rfl⟩
    obtain ⟨nt, lt, ht⟩ : ∃ n l, wOf (x.fmod y + x.fmod y) = (n, l) := ⟨_, _, rfl⟩
    obtain ⟨no, lo, ho⟩ : ∃ no lo, wOf 1 = (no, lo) := ⟨_, _, rfl⟩
    have vq := vz_mk hq.symm (fit_fdiv (y := y) hx.2)
    have vr := vz_mk hm.symm (fit_fmod (x := x) (by omega) hy.2)
    have vt := vz_mk ht.symm ft
    have vo := vz_mk ho.symm fit_one
    have hO : Hid (∀ W, Calls Tryz.prog 158 #[] W (WRes1 (no, lo) W)) := fun W => by rw [← ho]; exact one_any W
    have e3 : Hid (dmS n1 l1 n2 l2 = ((nq, lq), (nr, lr), 0)) := by rw [Hid, dmS_z hx hy (by omega), hq, hm]
    have e4 : Hid (addS nr lr nr lr = ((nt, lt), 0)) := by rw [← ht]; exact addS_z vr vr ft
    have hc : cmpS nt lt n2 l2 = (cmpZ (x.fmod y + x.fmod y) y, 0) := cmpS_z vt hy
    have hv := vq.val_eq
    have hlen := vq.pos
    by_cases h1 : y < x.fmod y + x.fmod y
    · rw [if_pos (.inl h1)] at fr ⊢
      have e5 : Hid (cmpS nt lt n2 l2 = (1, 0)) := by rw [Hid, hc]; unfold cmpZ; rw [if_neg (by omega), if_pos h1]
      obtain ⟨nu, lu, hu⟩ : ∃ n l, wOf (x.fdiv y + 1) = (n, l) := ⟨_, _, rfl⟩
      have e6 : Hid (addS nq lq no lo = ((nu, lu), 0)) := by rw [← hu]; exact addS_z vq vo fr
      rw [hu]
      clear hs1 hs2 hb hfit ft hr hx hy hp fr hq hm ht ho vq vr vt vo hc hv hlen h1 hu
      go_enter_defers Tryz.func108, Tryz.ntmps108
      go_wp2_with fail
      refine (fcheck_any n1 n2 A1 A2 l1 l2 c1 c2 _ (((S1.out.alloc _).alloc _).alloc _) (((S2.out.alloc _).alloc _).alloc _)).mono ?_
      rw [e1.out]
      rintro e w1 ⟨rfl, hb⟩
      replace S1 := kS3 S1 hb
      replace S2 := kS3 S2 hb
      have Fo : Hid (Fw w1 (w.heap.size + 1)) := Fw.keep (Fw.keep (Fw.fresh (by simp) _ _) (Cw.fresh (by simp) _ _ _ _ _) (blw1 _ _)) (Cw.keep (Cw.fresh (by simp) _ _ _ _ _) (blw1 _ _)) hb
      have Ka : Hid (Cf w1 w.heap.size n1 A1 l1.length c1 n2 A2 l2.length c2) := Cf.keep (Cf.keep (Cf.keep (Cf.fresh (by simp) _ _ _ _ _ _ _ _ _) (blw1 _ _)) (blw1 _ _)) hb
      have Ko : Hid (Cw w1 (w.heap.size + 1) false none 0 0) := Cw.keep (Cw.keep (Cw.fresh (by simp) _ _ _ _ _) (blw1 _ _)) hb
      have Ke : Hid (C1 w1 (w.heap.size + 1 + 1) (.int .i64 0)) := C1.keep (C1.fresh (by simp) _ _) hb
      replace B := kB3 B hb
      clear hb
      obtain ⟨qa0, qa1, qa2, qa3⟩ := Ka.out
      have hza := lF Ka
      have hzo := lW Ko
      have hze := lC Ke
      go_wp2_with fail
      refine (want_ok _).mono ?_
      rintro e w2 ⟨rfl, hb⟩
      clear qa0 qa1 qa2 qa3
      replace S1 := kS S1 hb
      replace S2 := kS S2 hb
      replace Fo := kFw Fo Ko hb
      replace Ka := kF Ka hb
      replace Ko := kW Ko hb
      replace Ke := kC Ke hb
      replace B := kB B hb
      clear hb
      obtain ⟨qa0, qa1, qa2, qa3⟩ := Ka.out
      obtain ⟨qe0, qe1⟩ := Ke.out
      replace hza := lF Ka
      replace hzo := lW Ko
      replace hze := lC Ke
      go_wp2_with fail
      refine (wdivmod_any _ _ _ _ _ _ _ _ _ S1.out S2.out).mono ?_
      rw [e3.out]
      rintro e w3 ⟨A3, c3, B3, d3, rfl, hsq, hsr, hb⟩
      clear qa0 qa1 qa2 qa3 qe0 qe1
      replace S1 := kS S1 hb
      replace S2 := kS S2 hb
      replace Fo := kFw Fo Ko hb
      replace Ka := kF Ka hb
      replace Ko := kW Ko hb
      replace Ke := kC Ke hb
      replace B := kB B hb
      clear hb
      (try dsimp only at hsq hsr)
      (try dsimp only)
      have Sq : Hid (Sl w3 A3 lq c3) := hsq
      clear hsq
      have Sr : Hid (Sl w3 B3 lr d3) := hsr
      clear hsr
      obtain ⟨qe0, qe1⟩ := Ke.out
      replace hza := lF Ka
      replace hzo := lW Ko
      replace hze := lC Ke
      have hkaq := hza
      have hkoq := hzo
      have hkeq := hze
      have hkar := hza
      have hkor := hzo
      have hker := hze
      go_wp2_with fail
      refine (want_ok _).mono ?_
      rintro e w4 ⟨rfl, hb⟩
      clear qe0 qe1
      replace S1 : Hid (Sl w4 A1 l1 c1) := Sl.below (((S1.out.set1' Ke.out.1 (by decide) _).alloc _).alloc _) hb
      replace S2 : Hid (Sl w4 A2 l2 c2) := Sl.below (((S2.out.set1' Ke.out.1 (by decide) _).alloc _).alloc _) hb
      replace Sq : Hid (Sl w4 A3 lq c3) := Sl.below (((Sq.out.set1' Ke.out.1 (by decide) _).alloc _).alloc _) hb
      replace Sr : Hid (Sl w4 B3 lr d3) := Sl.below (((Sr.out.set1' Ke.out.1 (by decide) _).alloc _).alloc _) hb
      replace Fo : Hid (Fw w4 (w.heap.size + 1)) := Fw.keep (Fw.keep (Fw.keep (Fw.set1 Fo.out _) (Cw.set1 Ko.out (by omega) _) (blw1 _ _)) (Cw.keep (Cw.set1 Ko.out (by omega) _) (blw1 _ _)) (blw1 _ _)) (Cw.keep (Cw.keep (Cw.set1 Ko.out (by omega) _) (blw1 _ _)) (blw1 _ _)) hb
      have Fq : Hid (Fw w4 w3.heap.size) := Fw.keep (Fw.keep (Fw.fresh (by simp) _ _) (Cw.fresh (by simp) _ _ _ _ _) (blw1 _ _)) (Cw.keep (Cw.fresh (by simp) _ _ _ _ _) (blw1 _ _)) hb
      replace Ka : Hid (Cf w4 w.heap.size n1 A1 l1.length c1 n2 A2 l2.length c2) := Cf.keep (Cf.keep (Cf.keep (Cf.set1 Ka.out (by omega) _) (blw1 _ _)) (blw1 _ _)) hb
      replace Ko : Hid (Cw w4 (w.heap.size + 1) false none 0 0) := Cw.keep (Cw.keep (Cw.keep (Cw.set1 Ko.out (by omega) _) (blw1 _ _)) (blw1 _ _)) hb
      replace Ke : Hid (C1 w4 (w.heap.size + 1 + 1) (.int .i64 0)) := C1.keep (C1.keep (C1.keep (C1.new Ke.out _) (blw1 _ _)) (blw1 _ _)) hb
      have Kq : Hid (Cw w4 w3.heap.size nq A3 lq.length c3) := Cw.keep (Cw.keep (Cw.fresh (by simp) _ _ _ _ _) (blw1 _ _)) hb
      have Kr : Hid (Cw w4 (w3.heap.size + 1) nr B3 lr.length d3) := Cw.keep (Cw.fresh (by simp) _ _ _ _ _) hb
      replace B : Hid (Below w.heap.size w w4) := below_mono (below_mono (below_mono (Below.setCell B.out (p := ⟨w.heap.size + 1 + 1, 0, none⟩) (by simp <;> omega) _) (blw1 _ _)) (blw1 _ _)) hb
      clear hb
      go_wp2_with fail
      have KaX : Hid (Cf w4.drew w.heap.size n1 A1 l1.length c1 n2 A2 l2.length c2) := Ka.out
      have KoX : Hid (Cw w4.drew (w.heap.size + 1) false none 0 0) := Ko.out
      have KeX : Hid (C1 w4.drew (w.heap.size + 1 + 1) (.int .i64 0)) := Ke.out
      have KqX : Hid (Cw w4.drew w3.heap.size nq A3 lq.length c3) := Kq.out
      have KrX : Hid (Cw w4.drew (w3.heap.size + 1) nr B3 lr.length d3) := Kr.out
      have FoX : Hid (Fw w4.drew (w.heap.size + 1)) := Fo.out
      have FqX : Hid (Fw w4.drew w3.heap.size) := Fq.out
      have S1X : Hid (Sl w4.drew A1 l1 c1) := Sl.drew S1.out
      have S2X : Hid (Sl w4.drew A2 l2 c2) := Sl.drew S2.out
      have SqX : Hid (Sl w4.drew A3 lq c3) := Sl.drew Sq.out
      have SrX : Hid (Sl w4.drew B3 lr d3) := Sl.drew Sr.out
      have BX : Hid (Below w.heap.size w w4.drew) := Below.drew B.out
      clear Ka Ko Ke Kq Kr Fo Fq S1 S2 Sq Sr B
      have J0 : Hid (w4.drew.cell? ⟨w.heap.size, 0, none⟩ = some (.bool n1) ∧ w4.drew.cell? ⟨w.heap.size, 1, none⟩ = some (.slice A1 l1.length c1) ∧ w4.drew.cell? ⟨w.heap.size, 2, none⟩ = some (.bool n2) ∧ w4.drew.cell? ⟨w.heap.size, 3, none⟩ = some (.slice A2 l2.length c2) ∧ w4.drew.cell? ⟨w3.heap.size + 1, 0, none⟩ = some (.bool nr) ∧ w4.drew.cell? ⟨w3.heap.size + 1, 1, none⟩ = some (.slice B3 lr.length d3)) := ⟨KaX.out.1, KaX.out.2.1, KaX.out.2.2.1, KaX.out.2.2.2, KrX.out.1, KrX.out.2⟩
      go_region_held3 (fun w' => w'.cell? ⟨w.heap.size, 0, none⟩ = some (.bool n1) ∧ w'.cell? ⟨w.heap.size, 1, none⟩ = some (.slice A1 l1.length c1) ∧ w'.cell? ⟨w.heap.size, 2, none⟩ = some (.bool n2) ∧ w'.cell? ⟨w.heap.size, 3, none⟩ = some (.slice A2 l2.length c2) ∧ w'.cell? ⟨w3.heap.size + 1, 0, none⟩ = some (.bool nr) ∧ w'.cell? ⟨w3.heap.size + 1, 1, none⟩ = some (.slice B3 lr.length d3))
        (first | with_reducible exact J3.out | with_reducible exact J2.out | with_reducible exact J1.out | with_reducible exact J0.out)
        (first
          | (go_at_call 121; (with_reducible refine (wadd_any nr nr _ _ lr lr _ _ _ SrX.out SrX.out).mono ?_); rw [e4.out]; rintro e v1 ⟨A5, c5, rfl, hs5, hb⟩; (try dsimp only at hs5); (try dsimp only); have S5v1 : Hid (Sl v1 A5 lt c5) := hs5; have Kav1 := Lib.hid (KaX.out.keep hb); have Fov1 := Lib.hid (Fw.keep FoX.out KoX.out hb); have Kov1 := Lib.hid (KoX.out.keep hb); have Kev1 := Lib.hid (KeX.out.keep hb); have Fqv1 := Lib.hid (Fw.keep FqX.out KqX.out hb); have Kqv1 := Lib.hid (KqX.out.keep hb); have Krv1 := Lib.hid (KrX.out.keep hb); have S2v1 := Lib.hid (S2X.out.below hb); have Sqv1 := Lib.hid (SqX.out.below hb); have Bv1 := Lib.hid (below_mono BX.out hb); have J1 : Hid (v1.cell? ⟨w.heap.size, 0, none⟩ = some (.bool n1) ∧ v1.cell? ⟨w.heap.size, 1, none⟩ = some (.slice A1 l1.length c1) ∧ v1.cell? ⟨w.heap.size, 2, none⟩ = some (.bool n2) ∧ v1.cell? ⟨w.heap.size, 3, none⟩ = some (.slice A2 l2.length c2) ∧ v1.cell? ⟨w3.heap.size + 1, 0, none⟩ = some (.bool nr) ∧ v1.cell? ⟨w3.heap.size + 1, 1, none⟩ = some (.slice B3 lr.length d3)) := ⟨Kav1.out.1, Kav1.out.2.1, Kav1.out.2.2.1, Kav1.out.2.2.2, Krv1.out.1, Krv1.out.2⟩; clear hb hs5)
          | (go_at_call 96; (with_reducible refine (must_ok nt A5 lt.length c5 _).mono ?_); rintro e v2 ⟨rfl, hb⟩; have Kav2 := Lib.hid (Kav1.out.keep hb); have Fov2 := Lib.hid (Fw.keep Fov1.out Kov1.out hb); have Kov2 := Lib.hid (Kov1.out.keep hb); have Kev2 := Lib.hid (Kev1.out.keep hb); have Fqv2 := Lib.hid (Fw.keep Fqv1.out Kqv1.out hb); have Kqv2 := Lib.hid (Kqv1.out.keep hb); have Krv2 := Lib.hid (Krv1.out.keep hb); have S2v2 := Lib.hid (S2v1.out.below hb); have Sqv2 := Lib.hid (Sqv1.out.below hb); have S5v2 := Lib.hid (S5v1.out.below hb); have Bv2 := Lib.hid (below_mono Bv1.out hb); have J2 : Hid (v2.cell? ⟨w.heap.size, 0, none⟩ = some (.bool n1) ∧ v2.cell? ⟨w.heap.size, 1, none⟩ = some (.slice A1 l1.length c1) ∧ v2.cell? ⟨w.heap.size, 2, none⟩ = some (.bool n2) ∧ v2.cell? ⟨w.heap.size, 3, none⟩ = some (.slice A2 l2.length c2) ∧ v2.cell? ⟨w3.heap.size + 1, 0, none⟩ = some (.bool nr) ∧ v2.cell? ⟨w3.heap.size + 1, 1, none⟩ = some (.slice B3 lr.length d3)) := ⟨Kav2.out.1, Kav2.out.2.1, Kav2.out.2.2.1, Kav2.out.2.2.2, Krv2.out.1, Krv2.out.2⟩; clear hb)
          | (go_at_call 105; (with_reducible refine (cmp_any nt n2 _ _ lt l2 _ _ _ S5v2.out S2v2.out).mono ?_); rw [e5.out]; rintro e v3 ⟨rfl, hb⟩; have Kav3 := Lib.hid (Kav2.out.keep hb); have Fov3 := Lib.hid (Fw.keep Fov2.out Kov2.out hb); have Kov3 := Lib.hid (Kov2.out.keep hb); have Kev3 := Lib.hid (Kev2.out.keep hb); have Fqv3 := Lib.hid (Fw.keep Fqv2.out Kqv2.out hb); have Kqv3 := Lib.hid (Kqv2.out.keep hb); have Krv3 := Lib.hid (Krv2.out.keep hb); have Sqv3 := Lib.hid (Sqv2.out.below hb); have Bv3 := Lib.hid (below_mono Bv2.out hb); have J3 : Hid (v3.cell? ⟨w.heap.size, 0, none⟩ = some (.bool n1) ∧ v3.cell? ⟨w.heap.size, 1, none⟩ = some (.slice A1 l1.length c1) ∧ v3.cell? ⟨w.heap.size, 2, none⟩ = some (.bool n2) ∧ v3.cell? ⟨w.heap.size, 3, none⟩ = some (.slice A2 l2.length c2) ∧ v3.cell? ⟨w3.heap.size + 1, 0, none⟩ = some (.bool nr) ∧ v3.cell? ⟨w3.heap.size + 1, 1, none⟩ = some (.slice B3 lr.length d3)) := ⟨Kav3.out.1, Kav3.out.2.1, Kav3.out.2.2.1, Kav3.out.2.2.2, Krv3.out.1, Krv3.out.2⟩; clear hb))
      obtain ⟨q0, q1⟩ := Kqv3.out
      obtain ⟨g0, g1⟩ := Fqv3.out
      obtain ⟨r0, r1⟩ := Kov3.out
      obtain ⟨g2, g3⟩ := Fov3.out
      obtain ⟨u0, u1⟩ := Kev3.out
      go_wp2_with fail
      have KoY : Hid (Cw v3.drew (w.heap.size + 1) false none 0 0) := Kov3.out
      have KeY : Hid (C1 v3.drew (w.heap.size + 1 + 1) (.int .i64 0)) := Kev3.out
      have KqY : Hid (Cw v3.drew w3.heap.size nq _ lq.length c3) := Kqv3.out
      have FoY : Hid (Fw v3.drew (w.heap.size + 1)) := Fov3.out
      have FqY : Hid (Fw v3.drew w3.heap.size) := Fqv3.out
      have SqY : Hid (Sl v3.drew _ lq c3) := Sl.drew Sqv3.out
      have BY : Hid (Below w.heap.size w v3.drew) := Below.drew Bv3.out
      refine wp_region_noPanic ?_
      go_region_with (first
        | (go_at_call 158; refine (hO.out _).mono ?_; rintro e x1 ⟨A6, c6, rfl, hs6, hb⟩; (try dsimp only at hs6); (try dsimp only); have S6x1 : Hid (Sl x1 A6 lo c6) := hs6; have Fox1 := Lib.hid (Fw.keep FoY.out KoY.out hb); have Kox1 := Lib.hid (KoY.out.keep hb); have Kex1 := Lib.hid (KeY.out.keep hb); have Fqx1 := Lib.hid (Fw.keep FqY.out KqY.out hb); have Kqx1 := Lib.hid (KqY.out.keep hb); have Sqx1 := Lib.hid (SqY.out.below hb); have Bx1 := Lib.hid (below_mono BY.out hb); obtain ⟨q2, q3⟩ := Kqx1.out; clear hb hs6)
        | (go_at_call 121; refine (wadd_any nq no _ _ lq lo _ _ _ Sqx1.out S6x1.out).mono ?_; rw [e6.out]; rintro e x2 ⟨A7, c7, rfl, hs7, hb⟩; (try dsimp only at hs7); (try dsimp only); have Szx2 : Hid (Sl x2 A7 lu c7) := hs7; have Fox2 := Lib.hid (Fw.keep Fox1.out Kox1.out hb); have Kox2 := Lib.hid (Kox1.out.keep hb); have Kex2 := Lib.hid (Kex1.out.keep hb); have Fqx2 := Lib.hid (Fw.keep Fqx1.out Kqx1.out hb); have Kqx2 := Lib.hid (Kqx1.out.keep hb); have Bx2 := Lib.hid (below_mono Bx1.out hb); clear hb hs7)
        | (go_at_call 96; refine (must_ok nu A7 lu.length c7 _).mono ?_; rintro e x3 ⟨rfl, hb⟩; have Fox3 := Lib.hid (Fw.keep Fox2.out Kox2.out hb); have Kox3 := Lib.hid (Kox2.out.keep hb); have Kex3 := Lib.hid (Kex2.out.keep hb); have Fqx3 := Lib.hid (Fw.keep Fqx2.out Kqx2.out hb); have Kqx3 := Lib.hid (Kqx2.out.keep hb); have Szx3 := Lib.hid (Szx2.out.below hb); have Bx3 := Lib.hid (below_mono Bx2.out hb); obtain ⟨q0, q1⟩ := Kqx3.out; obtain ⟨g0, g1⟩ := Fqx3.out; obtain ⟨r0, r1⟩ := Kox3.out; obtain ⟨g2, g3⟩ := Fox3.out; obtain ⟨u0, u1⟩ := Kex3.out; clear hb))
      all_goals
        refine NoPanic.normal ?_
        go_wp2_with fail
        refine leaves_cons (f := 100) (args := #[.pointer (some ⟨w.heap.size + 1 + 1, 0, none⟩)]) (by simp) (by simp [go_sem]) ?_
        refine (catch_idle ⟨w.heap.size + 1 + 1, 0, none⟩ _).mono ?_
        rintro e u' w'' ⟨rfl, rfl, rfl⟩
        obtain ⟨r0, r1⟩ := Kox3.out
        obtain ⟨u0, u1⟩ := Kex3.out
        simp [Leaves, settle, results, Tryz.results108, go_sem, r0, r1, u0]
        exact ⟨A7, c7, rfl, (((Szx3.out.setW Kqx3.out.1 Kqx3.out.2 _ _).setW (Cw.setW Kox3.out (by omega) _ _).1 (Cw.setW Kox3.out (by omega) _ _).2 _ _).set1' (C1.setW (C1.setW Kex3.out (by omega) _ _) (by omega) _ _).1 (by decide) _), (Below.setCell (below_setW (below_setW Bx3.out (by omega) _ _) (by omega) _ _) (p := ⟨w.heap.size + 1 + 1, 0, none⟩) (by simp <;> omega) _)⟩
    · by_cases h2 : x.fmod y + x.fmod y = y
      · have e5 : Hid (cmpS nt lt n2 l2 = (0, 0)) := by rw [Hid, hc]; unfold cmpZ; rw [if_neg (by omega), if_neg (by omega)]
        have hpar : lq[0]?.getD 0 % 2 = (x.fdiv y).natAbs % 2 := by
          rw [← hv]
          cases lq with
          | nil => simp [val]
          | cons z t => simp only [List.getElem?_cons_zero, Option.getD_some, val]; omega
        by_cases h3 : (x.fdiv y).natAbs % 2 = 1
        · have hz : Hid (((lq.length : Int) == 0) = false) := by rw [Hid, beq_eq_false_iff_ne]; intro e; have := vq.zero.1 (by omega); rw [this] at h3; simp at h3
          have hl : 0 < lq.length := vq.pos.2 (by intro e; rw [e] at h3; simp at h3)
          rw [if_pos (.inr ⟨h2, h3⟩)] at fr ⊢
          obtain ⟨nu, lu, hu⟩ : ∃ n l, wOf (x.fdiv y + 1) = (n, l) := ⟨_, _, rfl⟩
          have e6 : Hid (addS nq lq no lo = ((nu, lu), 0)) := by rw [← hu]; exact addS_z vq vo fr
          rw [hu]
          rw [h3] at hpar
          clear hs1 hs2 hb hfit ft hr hx hy hp fr hq hm ht ho vq vr vt vo hc hv hlen h1 h2 h3 hu
          go_enter_defers Tryz.func108, Tryz.ntmps108
          go_wp2_with fail
          refine (fcheck_any n1 n2 A1 A2 l1 l2 c1 c2 _ (((S1.out.alloc _).alloc _).alloc _) (((S2.out.alloc _).alloc _).alloc _)).mono ?_
          rw [e1.out]
          rintro e w1 ⟨rfl, hb⟩
          replace S1 := kS3 S1 hb
          replace S2 := kS3 S2 hb
          have Fo : Hid (Fw w1 (w.heap.size + 1)) := Fw.keep (Fw.keep (Fw.fresh (by simp) _ _) (Cw.fresh (by simp) _ _ _ _ _) (blw1 _ _)) (Cw.keep (Cw.fresh (by simp) _ _ _ _ _) (blw1 _ _)) hb
          have Ka : Hid (Cf w1 w.heap.size n1 A1 l1.length c1 n2 A2 l2.length c2) := Cf.keep (Cf.keep (Cf.keep (Cf.fresh (by simp) _ _ _ _ _ _ _ _ _) (blw1 _ _)) (blw1 _ _)) hb
          have Ko : Hid (Cw w1 (w.heap.size + 1) false none 0 0) := Cw.keep (Cw.keep (Cw.fresh (by simp) _ _ _ _ _) (blw1 _ _)) hb
          have Ke : Hid (C1 w1 (w.heap.size + 1 + 1) (.int .i64 0)) := C1.keep (C1.fresh (by simp) _ _) hb
          replace B := kB3 B hb
          clear hb
          obtain ⟨qa0, qa1, qa2, qa3⟩ := Ka.out
          have hza := lF Ka
          have hzo := lW Ko
          have hze := lC Ke
          go_wp2_with fail
          refine (want_ok _).mono ?_
          rintro e w2 ⟨rfl, hb⟩
          clear qa0 qa1 qa2 qa3
          replace S1 := kS S1 hb
          replace S2 := kS S2 hb
          replace Fo := kFw Fo Ko hb
          replace Ka := kF Ka hb
          replace Ko := kW Ko hb
          replace Ke := kC Ke hb
          replace B := kB B hb
          clear hb
          obtain ⟨qa0, qa1, qa2, qa3⟩ := Ka.out
          obtain ⟨qe0, qe1⟩ := Ke.out
          replace hza := lF Ka
          replace hzo := lW Ko
          replace hze := lC Ke
          go_wp2_with fail
          refine (wdivmod_any _ _ _ _ _ _ _ _ _ S1.out S2.out).mono ?_
          rw [e3.out]
          rintro e w3 ⟨A3, c3, B3, d3, rfl, hsq, hsr, hb⟩
          clear qa0 qa1 qa2 qa3 qe0 qe1
          replace S1 := kS S1 hb
          replace S2 := kS S2 hb
          replace Fo := kFw Fo Ko hb
          replace Ka := kF Ka hb
          replace Ko := kW Ko hb
          replace Ke := kC Ke hb
          replace B := kB B hb
          clear hb
          (try dsimp only at hsq hsr)
          (try dsimp only)
          have Sq : Hid (Sl w3 A3 lq c3) := hsq
          clear hsq
          have Sr : Hid (Sl w3 B3 lr d3) := hsr
          clear hsr
          obtain ⟨qe0, qe1⟩ := Ke.out
          replace hza := lF Ka
          replace hzo := lW Ko
          replace hze := lC Ke
          have hkaq := hza
          have hkoq := hzo
          have hkeq := hze
          have hkar := hza
          have hkor := hzo
          have hker := hze
          go_wp2_with fail
          refine (want_ok _).mono ?_
          rintro e w4 ⟨rfl, hb⟩
          clear qe0 qe1
          replace S1 : Hid (Sl w4 A1 l1 c1) := Sl.below (((S1.out.set1' Ke.out.1 (by decide) _).alloc _).alloc _) hb
          replace S2 : Hid (Sl w4 A2 l2 c2) := Sl.below (((S2.out.set1' Ke.out.1 (by decide) _).alloc _).alloc _) hb
          replace Sq : Hid (Sl w4 A3 lq c3) := Sl.below (((Sq.out.set1' Ke.out.1 (by decide) _).alloc _).alloc _) hb
          replace Sr : Hid (Sl w4 B3 lr d3) := Sl.below (((Sr.out.set1' Ke.out.1 (by decide) _).alloc _).alloc _) hb
          replace Fo : Hid (Fw w4 (w.heap.size + 1)) := Fw.keep (Fw.keep (Fw.keep (Fw.set1 Fo.out _) (Cw.set1 Ko.out (by omega) _) (blw1 _ _)) (Cw.keep (Cw.set1 Ko.out (by omega) _) (blw1 _ _)) (blw1 _ _)) (Cw.keep (Cw.keep (Cw.set1 Ko.out (by omega) _) (blw1 _ _)) (blw1 _ _)) hb
          have Fq : Hid (Fw w4 w3.heap.size) := Fw.keep (Fw.keep (Fw.fresh (by simp) _ _) (Cw.fresh (by simp) _ _ _ _ _) (blw1 _ _)) (Cw.keep (Cw.fresh (by simp) _ _ _ _ _) (blw1 _ _)) hb
          replace Ka : Hid (Cf w4 w.heap.size n1 A1 l1.length c1 n2 A2 l2.length c2) := Cf.keep (Cf.keep (Cf.keep (Cf.set1 Ka.out (by omega) _) (blw1 _ _)) (blw1 _ _)) hb
          replace Ko : Hid (Cw w4 (w.heap.size + 1) false none 0 0) := Cw.keep (Cw.keep (Cw.keep (Cw.set1 Ko.out (by omega) _) (blw1 _ _)) (blw1 _ _)) hb
          replace Ke : Hid (C1 w4 (w.heap.size + 1 + 1) (.int .i64 0)) := C1.keep (C1.keep (C1.keep (C1.new Ke.out _) (blw1 _ _)) (blw1 _ _)) hb
          have Kq : Hid (Cw w4 w3.heap.size nq A3 lq.length c3) := Cw.keep (Cw.keep (Cw.fresh (by simp) _ _ _ _ _) (blw1 _ _)) hb
          have Kr : Hid (Cw w4 (w3.heap.size + 1) nr B3 lr.length d3) := Cw.keep (Cw.fresh (by simp) _ _ _ _ _) hb
          replace B : Hid (Below w.heap.size w w4) := below_mono (below_mono (below_mono (Below.setCell B.out (p := ⟨w.heap.size + 1 + 1, 0, none⟩) (by simp <;> omega) _) (blw1 _ _)) (blw1 _ _)) hb
          clear hb
          go_wp2_with fail
          have KaX : Hid (Cf w4.drew w.heap.size n1 A1 l1.length c1 n2 A2 l2.length c2) := Ka.out
          have KoX : Hid (Cw w4.drew (w.heap.size + 1) false none 0 0) := Ko.out
          have KeX : Hid (C1 w4.drew (w.heap.size + 1 + 1) (.int .i64 0)) := Ke.out
          have KqX : Hid (Cw w4.drew w3.heap.size nq A3 lq.length c3) := Kq.out
          have KrX : Hid (Cw w4.drew (w3.heap.size + 1) nr B3 lr.length d3) := Kr.out
          have FoX : Hid (Fw w4.drew (w.heap.size + 1)) := Fo.out
          have FqX : Hid (Fw w4.drew w3.heap.size) := Fq.out
          have S1X : Hid (Sl w4.drew A1 l1 c1) := Sl.drew S1.out
          have S2X : Hid (Sl w4.drew A2 l2 c2) := Sl.drew S2.out
          have SqX : Hid (Sl w4.drew A3 lq c3) := Sl.drew Sq.out
          have SrX : Hid (Sl w4.drew B3 lr d3) := Sl.drew Sr.out
          have BX : Hid (Below w.heap.size w w4.drew) := Below.drew B.out
          clear Ka Ko Ke Kq Kr Fo Fq S1 S2 Sq Sr B
          have J0 : Hid (w4.drew.cell? ⟨w.heap.size, 0, none⟩ = some (.bool n1) ∧ w4.drew.cell? ⟨w.heap.size, 1, none⟩ = some (.slice A1 l1.length c1) ∧ w4.drew.cell? ⟨w.heap.size, 2, none⟩ = some (.bool n2) ∧ w4.drew.cell? ⟨w.heap.size, 3, none⟩ = some (.slice A2 l2.length c2) ∧ w4.drew.cell? ⟨w3.heap.size + 1, 0, none⟩ = some (.bool nr) ∧ w4.drew.cell? ⟨w3.heap.size + 1, 1, none⟩ = some (.slice B3 lr.length d3)) := ⟨KaX.out.1, KaX.out.2.1, KaX.out.2.2.1, KaX.out.2.2.2, KrX.out.1, KrX.out.2⟩
          go_region_held3 (fun w' => w'.cell? ⟨w.heap.size, 0, none⟩ = some (.bool n1) ∧ w'.cell? ⟨w.heap.size, 1, none⟩ = some (.slice A1 l1.length c1) ∧ w'.cell? ⟨w.heap.size, 2, none⟩ = some (.bool n2) ∧ w'.cell? ⟨w.heap.size, 3, none⟩ = some (.slice A2 l2.length c2) ∧ w'.cell? ⟨w3.heap.size + 1, 0, none⟩ = some (.bool nr) ∧ w'.cell? ⟨w3.heap.size + 1, 1, none⟩ = some (.slice B3 lr.length d3))
            (first | with_reducible exact J3.out | with_reducible exact J2.out | with_reducible exact J1.out | with_reducible exact J0.out)
            (first
              | (go_at_call 121; (with_reducible refine (wadd_any nr nr _ _ lr lr _ _ _ SrX.out SrX.out).mono ?_); rw [e4.out]; rintro e v1 ⟨A5, c5, rfl, hs5, hb⟩; (try dsimp only at hs5); (try dsimp only); have S5v1 : Hid (Sl v1 A5 lt c5) := hs5; have Kav1 := Lib.hid (KaX.out.keep hb); have Fov1 := Lib.hid (Fw.keep FoX.out KoX.out hb); have Kov1 := Lib.hid (KoX.out.keep hb); have Kev1 := Lib.hid (KeX.out.keep hb); have Fqv1 := Lib.hid (Fw.keep FqX.out KqX.out hb); have Kqv1 := Lib.hid (KqX.out.keep hb); have Krv1 := Lib.hid (KrX.out.keep hb); have S2v1 := Lib.hid (S2X.out.below hb); have Sqv1 := Lib.hid (SqX.out.below hb); have Bv1 := Lib.hid (below_mono BX.out hb); have J1 : Hid (v1.cell? ⟨w.heap.size, 0, none⟩ = some (.bool n1) ∧ v1.cell? ⟨w.heap.size, 1, none⟩ = some (.slice A1 l1.length c1) ∧ v1.cell? ⟨w.heap.size, 2, none⟩ = some (.bool n2) ∧ v1.cell? ⟨w.heap.size, 3, none⟩ = some (.slice A2 l2.length c2) ∧ v1.cell? ⟨w3.heap.size + 1, 0, none⟩ = some (.bool nr) ∧ v1.cell? ⟨w3.heap.size + 1, 1, none⟩ = some (.slice B3 lr.length d3)) := ⟨Kav1.out.1, Kav1.out.2.1, Kav1.out.2.2.1, Kav1.out.2.2.2, Krv1.out.1, Krv1.out.2⟩; clear hb hs5)
              | (go_at_call 96; (with_reducible refine (must_ok nt A5 lt.length c5 _).mono ?_); rintro e v2 ⟨rfl, hb⟩; have Kav2 := Lib.hid (Kav1.out.keep hb); have Fov2 := Lib.hid (Fw.keep Fov1.out Kov1.out hb); have Kov2 := Lib.hid (Kov1.out.keep hb); have Kev2 := Lib.hid (Kev1.out.keep hb); have Fqv2 := Lib.hid (Fw.keep Fqv1.out Kqv1.out hb); have Kqv2 := Lib.hid (Kqv1.out.keep hb); have Krv2 := Lib.hid (Krv1.out.keep hb); have S2v2 := Lib.hid (S2v1.out.below hb); have Sqv2 := Lib.hid (Sqv1.out.below hb); have S5v2 := Lib.hid (S5v1.out.below hb); have Bv2 := Lib.hid (below_mono Bv1.out hb); have J2 : Hid (v2.cell? ⟨w.heap.size, 0, none⟩ = some (.bool n1) ∧ v2.cell? ⟨w.heap.size, 1, none⟩ = some (.slice A1 l1.length c1) ∧ v2.cell? ⟨w.heap.size, 2, none⟩ = some (.bool n2) ∧ v2.cell? ⟨w.heap.size, 3, none⟩ = some (.slice A2 l2.length c2) ∧ v2.cell? ⟨w3.heap.size + 1, 0, none⟩ = some (.bool nr) ∧ v2.cell? ⟨w3.heap.size + 1, 1, none⟩ = some (.slice B3 lr.length d3)) := ⟨Kav2.out.1, Kav2.out.2.1, Kav2.out.2.2.1, Kav2.out.2.2.2, Krv2.out.1, Krv2.out.2⟩; clear hb)
              | (go_at_call 105; (with_reducible refine (cmp_any nt n2 _ _ lt l2 _ _ _ S5v2.out S2v2.out).mono ?_); rw [e5.out]; rintro e v3 ⟨rfl, hb⟩; have Kav3 := Lib.hid (Kav2.out.keep hb); have Fov3 := Lib.hid (Fw.keep Fov2.out Kov2.out hb); have Kov3 := Lib.hid (Kov2.out.keep hb); have Kev3 := Lib.hid (Kev2.out.keep hb); have Fqv3 := Lib.hid (Fw.keep Fqv2.out Kqv2.out hb); have Kqv3 := Lib.hid (Kqv2.out.keep hb); have Krv3 := Lib.hid (Krv2.out.keep hb); have Sqv3 := Lib.hid (Sqv2.out.below hb); have Bv3 := Lib.hid (below_mono Bv2.out hb); have J3 : Hid (v3.cell? ⟨w.heap.size, 0, none⟩ = some (.bool n1) ∧ v3.cell? ⟨w.heap.size, 1, none⟩ = some (.slice A1 l1.length c1) ∧ v3.cell? ⟨w.heap.size, 2, none⟩ = some (.bool n2) ∧ v3.cell? ⟨w.heap.size, 3, none⟩ = some (.slice A2 l2.length c2) ∧ v3.cell? ⟨w3.heap.size + 1, 0, none⟩ = some (.bool nr) ∧ v3.cell? ⟨w3.heap.size + 1, 1, none⟩ = some (.slice B3 lr.length d3)) := ⟨Kav3.out.1, Kav3.out.2.1, Kav3.out.2.2.1, Kav3.out.2.2.2, Krv3.out.1, Krv3.out.2⟩; clear hb))
          obtain ⟨q0, q1⟩ := Kqv3.out
          obtain ⟨g0, g1⟩ := Fqv3.out
          obtain ⟨r0, r1⟩ := Kov3.out
          obtain ⟨g2, g3⟩ := Fov3.out
          obtain ⟨u0, u1⟩ := Kev3.out
          have hk1 : lq[0]?.getD 0 < 4294967296 := getD_lim Sqv3.out.lim 0
          obtain ⟨bq, oq, rfl, hcell⟩ := Sqv3.out.rd.at_ (k := 0) hl
          rw [Nat.add_zero] at hcell
          generalize hk0 : lq[0]?.getD 0 = k0 at *
          have hbit : (bits .and .u32 (k0 : Int) 1 == 1) = true := by rw [u32_and1 k0 hk1, hpar]; rfl
          clear hk0
          go_wp2_with fail
          refine (zero_any nq _ lq c3 _).mono ?_
          rw [hz.out]
          rintro e y1 ⟨rfl, hb⟩
          have hcell2 := kept_cell hb hcell
          have Foy1 := Lib.hid (Fw.keep Fov3.out Kov3.out hb)
          have Koy1 := Lib.hid (Kov3.out.keep hb)
          have Key1 := Lib.hid (Kev3.out.keep hb)
          have Fqy1 := Lib.hid (Fw.keep Fqv3.out Kqv3.out hb)
          have Kqy1 := Lib.hid (Kqv3.out.keep hb)
          have Sqy1 := Lib.hid (Sqv3.out.below hb)
          have By1 := Lib.hid (below_mono Bv3.out hb)
          obtain ⟨q0, q1⟩ := Kqy1.out
          obtain ⟨g0, g1⟩ := Fqy1.out
          obtain ⟨r0, r1⟩ := Koy1.out
          obtain ⟨g2, g3⟩ := Foy1.out
          obtain ⟨u0, u1⟩ := Key1.out
          go_wp2_with fail
          have KoY : Hid (Cw y1.drew (w.heap.size + 1) false none 0 0) := Koy1.out
          have KeY : Hid (C1 y1.drew (w.heap.size + 1 + 1) (.int .i64 0)) := Key1.out
          have KqY : Hid (Cw y1.drew w3.heap.size nq _ lq.length c3) := Kqy1.out
          have FoY : Hid (Fw y1.drew (w.heap.size + 1)) := Foy1.out
          have FqY : Hid (Fw y1.drew w3.heap.size) := Fqy1.out
          have SqY : Hid (Sl y1.drew _ lq c3) := Sl.drew Sqy1.out
          have BY : Hid (Below w.heap.size w y1.drew) := Below.drew By1.out
          refine wp_region_noPanic ?_
          go_region_with (first
            | (go_at_call 158; refine (hO.out _).mono ?_; rintro e x1 ⟨A6, c6, rfl, hs6, hb⟩; (try dsimp only at hs6); (try dsimp only); have S6x1 : Hid (Sl x1 A6 lo c6) := hs6; have Fox1 := Lib.hid (Fw.keep FoY.out KoY.out hb); have Kox1 := Lib.hid (KoY.out.keep hb); have Kex1 := Lib.hid (KeY.out.keep hb); have Fqx1 := Lib.hid (Fw.keep FqY.out KqY.out hb); have Kqx1 := Lib.hid (KqY.out.keep hb); have Sqx1 := Lib.hid (SqY.out.below hb); have Bx1 := Lib.hid (below_mono BY.out hb); obtain ⟨q2, q3⟩ := Kqx1.out; clear hb hs6)
            | (go_at_call 121; refine (wadd_any nq no _ _ lq lo _ _ _ Sqx1.out S6x1.out).mono ?_; rw [e6.out]; rintro e x2 ⟨A7, c7, rfl, hs7, hb⟩; (try dsimp only at hs7); (try dsimp only); have Szx2 : Hid (Sl x2 A7 lu c7) := hs7; have Fox2 := Lib.hid (Fw.keep Fox1.out Kox1.out hb); have Kox2 := Lib.hid (Kox1.out.keep hb); have Kex2 := Lib.hid (Kex1.out.keep hb); have Fqx2 := Lib.hid (Fw.keep Fqx1.out Kqx1.out hb); have Kqx2 := Lib.hid (Kqx1.out.keep hb); have Bx2 := Lib.hid (below_mono Bx1.out hb); clear hb hs7)
            | (go_at_call 96; refine (must_ok nu A7 lu.length c7 _).mono ?_; rintro e x3 ⟨rfl, hb⟩; have Fox3 := Lib.hid (Fw.keep Fox2.out Kox2.out hb); have Kox3 := Lib.hid (Kox2.out.keep hb); have Kex3 := Lib.hid (Kex2.out.keep hb); have Fqx3 := Lib.hid (Fw.keep Fqx2.out Kqx2.out hb); have Kqx3 := Lib.hid (Kqx2.out.keep hb); have Szx3 := Lib.hid (Szx2.out.below hb); have Bx3 := Lib.hid (below_mono Bx2.out hb); obtain ⟨q0, q1⟩ := Kqx3.out; obtain ⟨g0, g1⟩ := Fqx3.out; obtain ⟨r0, r1⟩ := Kox3.out; obtain ⟨g2, g3⟩ := Fox3.out; obtain ⟨u0, u1⟩ := Kex3.out; clear hb))
          all_goals
            refine NoPanic.normal ?_
            go_wp2_with fail
            refine leaves_cons (f := 100) (args := #[.pointer (some ⟨w.heap.size + 1 + 1, 0, none⟩)]) (by simp) (by simp [go_sem]) ?_
            refine (catch_idle ⟨w.heap.size + 1 + 1, 0, none⟩ _).mono ?_
            rintro e u' w'' ⟨rfl, rfl, rfl⟩
            obtain ⟨r0, r1⟩ := Kox3.out
            obtain ⟨u0, u1⟩ := Kex3.out
            simp [Leaves, settle, results, Tryz.results108, go_sem, r0, r1, u0]
            exact ⟨A7, c7, rfl, (((Szx3.out.setW Kqx3.out.1 Kqx3.out.2 _ _).setW (Cw.setW Kox3.out (by omega) _ _).1 (Cw.setW Kox3.out (by omega) _ _).2 _ _).set1' (C1.setW (C1.setW Kex3.out (by omega) _ _) (by omega) _ _).1 (by decide) _), (Below.setCell (below_setW (below_setW Bx3.out (by omega) _ _) (by omega) _ _) (p := ⟨w.heap.size + 1 + 1, 0, none⟩) (by simp <;> omega) _)⟩
        · rw [if_neg (by omega), hq]
          by_cases h4 : x.fdiv y = 0
          · have hz : Hid (((lq.length : Int) == 0) = true) := by rw [Hid, beq_iff_eq]; have := vq.zero.2 h4; omega
            clear hs1 hs2 hb hfit ft hr hx hy hp fr hq hm ht ho vq vr vt vo hc hv hlen h1 h2 h3 h4 hpar
            go_enter_defers Tryz.func108, Tryz.ntmps108
            go_wp2_with fail
            refine (fcheck_any n1 n2 A1 A2 l1 l2 c1 c2 _ (((S1.out.alloc _).alloc _).alloc _) (((S2.out.alloc _).alloc _).alloc _)).mono ?_
            rw [e1.out]
            rintro e w1 ⟨rfl, hb⟩
            replace S1 := kS3 S1 hb
            replace S2 := kS3 S2 hb
            have Fo : Hid (Fw w1 (w.heap.size + 1)) := Fw.keep (Fw.keep (Fw.fresh (by simp) _ _) (Cw.fresh (by simp) _ _ _ _ _) (blw1 _ _)) (Cw.keep (Cw.fresh (by simp) _ _ _ _ _) (blw1 _ _)) hb
            have Ka : Hid (Cf w1 w.heap.size n1 A1 l1.length c1 n2 A2 l2.length c2) := Cf.keep (Cf.keep (Cf.keep (Cf.fresh (by simp) _ _ _ _ _ _ _ _ _) (blw1 _ _)) (blw1 _ _)) hb
            have Ko : Hid (Cw w1 (w.heap.size + 1) false none 0 0) := Cw.keep (Cw.keep (Cw.fresh (by simp) _ _ _ _ _) (blw1 _ _)) hb
            have Ke : Hid (C1 w1 (w.heap.size + 1 + 1) (.int .i64 0)) := C1.keep (C1.fresh (by simp) _ _) hb
            replace B := kB3 B hb
            clear hb
            obtain ⟨qa0, qa1, qa2, qa3⟩ := Ka.out
            have hza := lF Ka
            have hzo := lW Ko
            have hze := lC Ke
            go_wp2_with fail
            refine (want_ok _).mono ?_
            rintro e w2 ⟨rfl, hb⟩
            clear qa0 qa1 qa2 qa3
            replace S1 := kS S1 hb
            replace S2 := kS S2 hb
            replace Fo := kFw Fo Ko hb
            replace Ka := kF Ka hb
            replace Ko := kW Ko hb
            replace Ke := kC Ke hb
            replace B := kB B hb
            clear hb
            obtain ⟨qa0, qa1, qa2, qa3⟩ := Ka.out
            obtain ⟨qe0, qe1⟩ := Ke.out
            replace hza := lF Ka
            replace hzo := lW Ko
            replace hze := lC Ke
            go_wp2_with fail
            refine (wdivmod_any _ _ _ _ _ _ _ _ _ S1.out S2.out).mono ?_
            rw [e3.out]
            rintro e w3 ⟨A3, c3, B3, d3, rfl, hsq, hsr, hb⟩
            clear qa0 qa1 qa2 qa3 qe0 qe1
            replace S1 := kS S1 hb
            replace S2 := kS S2 hb
            replace Fo := kFw Fo Ko hb
            replace Ka := kF Ka hb
            replace Ko := kW Ko hb
            replace Ke := kC Ke hb
            replace B := kB B hb
            clear hb
            (try dsimp only at hsq hsr)
            (try dsimp only)
            have Sq : Hid (Sl w3 A3 lq c3) := hsq
            clear hsq
            have Sr : Hid (Sl w3 B3 lr d3) := hsr
            clear hsr
            obtain ⟨qe0, qe1⟩ := Ke.out
            replace hza := lF Ka
            replace hzo := lW Ko
            replace hze := lC Ke
            have hkaq := hza
            have hkoq := hzo
            have hkeq := hze
            have hkar := hza
            have hkor := hzo
            have hker := hze
            go_wp2_with fail
            refine (want_ok _).mono ?_
            rintro e w4 ⟨rfl, hb⟩
            clear qe0 qe1
            replace S1 : Hid (Sl w4 A1 l1 c1) := Sl.below (((S1.out.set1' Ke.out.1 (by decide) _).alloc _).alloc _) hb
            replace S2 : Hid (Sl w4 A2 l2 c2) := Sl.below (((S2.out.set1' Ke.out.1 (by decide) _).alloc _).alloc _) hb
            replace Sq : Hid (Sl w4 A3 lq c3) := Sl.below (((Sq.out.set1' Ke.out.1 (by decide) _).alloc _).alloc _) hb
            replace Sr : Hid (Sl w4 B3 lr d3) := Sl.below (((Sr.out.set1' Ke.out.1 (by decide) _).alloc _).alloc _) hb
            replace Fo : Hid (Fw w4 (w.heap.size + 1)) := Fw.keep (Fw.keep (Fw.keep (Fw.set1 Fo.out _) (Cw.set1 Ko.out (by omega) _) (blw1 _ _)) (Cw.keep (Cw.set1 Ko.out (by omega) _) (blw1 _ _)) (blw1 _ _)) (Cw.keep (Cw.keep (Cw.set1 Ko.out (by omega) _) (blw1 _ _)) (blw1 _ _)) hb
            have Fq : Hid (Fw w4 w3.heap.size) := Fw.keep (Fw.keep (Fw.fresh (by simp) _ _) (Cw.fresh (by simp) _ _ _ _ _) (blw1 _ _)) (Cw.keep (Cw.fresh (by simp) _ _ _ _ _) (blw1 _ _)) hb
            replace Ka : Hid (Cf w4 w.heap.size n1 A1 l1.length c1 n2 A2 l2.length c2) := Cf.keep (Cf.keep (Cf.keep (Cf.set1 Ka.out (by omega) _) (blw1 _ _)) (blw1 _ _)) hb
            replace Ko : Hid (Cw w4 (w.heap.size + 1) false none 0 0) := Cw.keep (Cw.keep (Cw.keep (Cw.set1 Ko.out (by omega) _) (blw1 _ _)) (blw1 _ _)) hb
            replace Ke : Hid (C1 w4 (w.heap.size + 1 + 1) (.int .i64 0)) := C1.keep (C1.keep (C1.keep (C1.new Ke.out _) (blw1 _ _)) (blw1 _ _)) hb
            have Kq : Hid (Cw w4 w3.heap.size nq A3 lq.length c3) := Cw.keep (Cw.keep (Cw.fresh (by simp) _ _ _ _ _) (blw1 _ _)) hb
            have Kr : Hid (Cw w4 (w3.heap.size + 1) nr B3 lr.length d3) := Cw.keep (Cw.fresh (by simp) _ _ _ _ _) hb
            replace B : Hid (Below w.heap.size w w4) := below_mono (below_mono (below_mono (Below.setCell B.out (p := ⟨w.heap.size + 1 + 1, 0, none⟩) (by simp <;> omega) _) (blw1 _ _)) (blw1 _ _)) hb
            clear hb
            go_wp2_with fail
            have KaX : Hid (Cf w4.drew w.heap.size n1 A1 l1.length c1 n2 A2 l2.length c2) := Ka.out
            have KoX : Hid (Cw w4.drew (w.heap.size + 1) false none 0 0) := Ko.out
            have KeX : Hid (C1 w4.drew (w.heap.size + 1 + 1) (.int .i64 0)) := Ke.out
            have KqX : Hid (Cw w4.drew w3.heap.size nq A3 lq.length c3) := Kq.out
            have KrX : Hid (Cw w4.drew (w3.heap.size + 1) nr B3 lr.length d3) := Kr.out
            have FoX : Hid (Fw w4.drew (w.heap.size + 1)) := Fo.out
            have FqX : Hid (Fw w4.drew w3.heap.size) := Fq.out
            have S1X : Hid (Sl w4.drew A1 l1 c1) := Sl.drew S1.out
            have S2X : Hid (Sl w4.drew A2 l2 c2) := Sl.drew S2.out
            have SqX : Hid (Sl w4.drew A3 lq c3) := Sl.drew Sq.out
            have SrX : Hid (Sl w4.drew B3 lr d3) := Sl.drew Sr.out
            have BX : Hid (Below w.heap.size w w4.drew) := Below.drew B.out
            clear Ka Ko Ke Kq Kr Fo Fq S1 S2 Sq Sr B
            have J0 : Hid (w4.drew.cell? ⟨w.heap.size, 0, none⟩ = some (.bool n1) ∧ w4.drew.cell? ⟨w.heap.size, 1, none⟩ = some (.slice A1 l1.length c1) ∧ w4.drew.cell? ⟨w.heap.size, 2, none⟩ = some (.bool n2) ∧ w4.drew.cell? ⟨w.heap.size, 3, none⟩ = some (.slice A2 l2.length c2) ∧ w4.drew.cell? ⟨w3.heap.size + 1, 0, none⟩ = some (.bool nr) ∧ w4.drew.cell? ⟨w3.heap.size + 1, 1, none⟩ = some (.slice B3 lr.length d3)) := ⟨KaX.out.1, KaX.out.2.1, KaX.out.2.2.1, KaX.out.2.2.2, KrX.out.1, KrX.out.2⟩
            go_region_held3 (fun w' => w'.cell? ⟨w.heap.size, 0, none⟩ = some (.bool n1) ∧ w'.cell? ⟨w.heap.size, 1, none⟩ = some (.slice A1 l1.length c1) ∧ w'.cell? ⟨w.heap.size, 2, none⟩ = some (.bool n2) ∧ w'.cell? ⟨w.heap.size, 3, none⟩ = some (.slice A2 l2.length c2) ∧ w'.cell? ⟨w3.heap.size + 1, 0, none⟩ = some (.bool nr) ∧ w'.cell? ⟨w3.heap.size + 1, 1, none⟩ = some (.slice B3 lr.length d3))
              (first | with_reducible exact J3.out | with_reducible exact J2.out | with_reducible exact J1.out | with_reducible exact J0.out)
              (first
                | (go_at_call 121; (with_reducible refine (wadd_any nr nr _ _ lr lr _ _ _ SrX.out SrX.out).mono ?_); rw [e4.out]; rintro e v1 ⟨A5, c5, rfl, hs5, hb⟩; (try dsimp only at hs5); (try dsimp only); have S5v1 : Hid (Sl v1 A5 lt c5) := hs5; have Kav1 := Lib.hid (KaX.out.keep hb); have Fov1 := Lib.hid (Fw.keep FoX.out KoX.out hb); have Kov1 := Lib.hid (KoX.out.keep hb); have Kev1 := Lib.hid (KeX.out.keep hb); have Fqv1 := Lib.hid (Fw.keep FqX.out KqX.out hb); have Kqv1 := Lib.hid (KqX.out.keep hb); have Krv1 := Lib.hid (KrX.out.keep hb); have S2v1 := Lib.hid (S2X.out.below hb); have Sqv1 := Lib.hid (SqX.out.below hb); have Bv1 := Lib.hid (below_mono BX.out hb); have J1 : Hid (v1.cell? ⟨w.heap.size, 0, none⟩ = some (.bool n1) ∧ v1.cell? ⟨w.heap.size, 1, none⟩ = some (.slice A1 l1.length c1) ∧ v1.cell? ⟨w.heap.size, 2, none⟩ = some (.bool n2) ∧ v1.cell? ⟨w.heap.size, 3, none⟩ = some (.slice A2 l2.length c2) ∧ v1.cell? ⟨w3.heap.size + 1, 0, none⟩ = some (.bool nr) ∧ v1.cell? ⟨w3.heap.size + 1, 1, none⟩ = some (.slice B3 lr.length d3)) := ⟨Kav1.out.1, Kav1.out.2.1, Kav1.out.2.2.1, Kav1.out.2.2.2, Krv1.out.1, Krv1.out.2⟩; clear hb hs5)
                | (go_at_call 96; (with_reducible refine (must_ok nt A5 lt.length c5 _).mono ?_); rintro e v2 ⟨rfl, hb⟩; have Kav2 := Lib.hid (Kav1.out.keep hb); have Fov2 := Lib.hid (Fw.keep Fov1.out Kov1.out hb); have Kov2 := Lib.hid (Kov1.out.keep hb); have Kev2 := Lib.hid (Kev1.out.keep hb); have Fqv2 := Lib.hid (Fw.keep Fqv1.out Kqv1.out hb); have Kqv2 := Lib.hid (Kqv1.out.keep hb); have Krv2 := Lib.hid (Krv1.out.keep hb); have S2v2 := Lib.hid (S2v1.out.below hb); have Sqv2 := Lib.hid (Sqv1.out.below hb); have S5v2 := Lib.hid (S5v1.out.below hb); have Bv2 := Lib.hid (below_mono Bv1.out hb); have J2 : Hid (v2.cell? ⟨w.heap.size, 0, none⟩ = some (.bool n1) ∧ v2.cell? ⟨w.heap.size, 1, none⟩ = some (.slice A1 l1.length c1) ∧ v2.cell? ⟨w.heap.size, 2, none⟩ = some (.bool n2) ∧ v2.cell? ⟨w.heap.size, 3, none⟩ = some (.slice A2 l2.length c2) ∧ v2.cell? ⟨w3.heap.size + 1, 0, none⟩ = some (.bool nr) ∧ v2.cell? ⟨w3.heap.size + 1, 1, none⟩ = some (.slice B3 lr.length d3)) := ⟨Kav2.out.1, Kav2.out.2.1, Kav2.out.2.2.1, Kav2.out.2.2.2, Krv2.out.1, Krv2.out.2⟩; clear hb)
                | (go_at_call 105; (with_reducible refine (cmp_any nt n2 _ _ lt l2 _ _ _ S5v2.out S2v2.out).mono ?_); rw [e5.out]; rintro e v3 ⟨rfl, hb⟩; have Kav3 := Lib.hid (Kav2.out.keep hb); have Fov3 := Lib.hid (Fw.keep Fov2.out Kov2.out hb); have Kov3 := Lib.hid (Kov2.out.keep hb); have Kev3 := Lib.hid (Kev2.out.keep hb); have Fqv3 := Lib.hid (Fw.keep Fqv2.out Kqv2.out hb); have Kqv3 := Lib.hid (Kqv2.out.keep hb); have Krv3 := Lib.hid (Krv2.out.keep hb); have Sqv3 := Lib.hid (Sqv2.out.below hb); have Bv3 := Lib.hid (below_mono Bv2.out hb); have J3 : Hid (v3.cell? ⟨w.heap.size, 0, none⟩ = some (.bool n1) ∧ v3.cell? ⟨w.heap.size, 1, none⟩ = some (.slice A1 l1.length c1) ∧ v3.cell? ⟨w.heap.size, 2, none⟩ = some (.bool n2) ∧ v3.cell? ⟨w.heap.size, 3, none⟩ = some (.slice A2 l2.length c2) ∧ v3.cell? ⟨w3.heap.size + 1, 0, none⟩ = some (.bool nr) ∧ v3.cell? ⟨w3.heap.size + 1, 1, none⟩ = some (.slice B3 lr.length d3)) := ⟨Kav3.out.1, Kav3.out.2.1, Kav3.out.2.2.1, Kav3.out.2.2.2, Krv3.out.1, Krv3.out.2⟩; clear hb))
            obtain ⟨q0, q1⟩ := Kqv3.out
            obtain ⟨g0, g1⟩ := Fqv3.out
            obtain ⟨r0, r1⟩ := Kov3.out
            obtain ⟨g2, g3⟩ := Fov3.out
            obtain ⟨u0, u1⟩ := Kev3.out
            go_wp2_with fail
            refine (zero_any nq A3 lq c3 _).mono ?_
            rw [hz.out]
            rintro e y1 ⟨rfl, hb⟩
            have Foy1 := Lib.hid (Fw.keep Fov3.out Kov3.out hb)
            have Koy1 := Lib.hid (Kov3.out.keep hb)
            have Key1 := Lib.hid (Kev3.out.keep hb)
            have Fqy1 := Lib.hid (Fw.keep Fqv3.out Kqv3.out hb)
            have Kqy1 := Lib.hid (Kqv3.out.keep hb)
            have Sqy1 := Lib.hid (Sqv3.out.below hb)
            have By1 := Lib.hid (below_mono Bv3.out hb)
            obtain ⟨q0, q1⟩ := Kqy1.out
            obtain ⟨g0, g1⟩ := Fqy1.out
            obtain ⟨r0, r1⟩ := Koy1.out
            obtain ⟨g2, g3⟩ := Foy1.out
            obtain ⟨u0, u1⟩ := Key1.out
            have Szy1 := Sqy1
            go_wp2_with fail
            refine leaves_cons (f := 100) (args := #[.pointer (some ⟨w.heap.size + 1 + 1, 0, none⟩)]) (by simp) (by simp [go_sem]) ?_
            refine (catch_idle ⟨w.heap.size + 1 + 1, 0, none⟩ _).mono ?_
            rintro e u' w'' ⟨rfl, rfl, rfl⟩
            obtain ⟨r0, r1⟩ := Koy1.out
            obtain ⟨u0, u1⟩ := Key1.out
            simp [Leaves, settle, results, Tryz.results108, go_sem, r0, r1, u0]
            exact ⟨A3, c3, rfl, ((Szy1.out.setW Koy1.out.1 Koy1.out.2 _ _).set1' (C1.setW Key1.out (by omega) _ _).1 (by decide) _), (Below.setCell (below_setW By1.out (by omega) _ _) (p := ⟨w.heap.size + 1 + 1, 0, none⟩) (by simp <;> omega) _)⟩
          · have hz : Hid (((lq.length : Int) == 0) = false) := by rw [Hid, beq_eq_false_iff_ne]; intro e; exact h4 (vq.zero.1 (by omega))
            have hl : 0 < lq.length := vq.pos.2 h4
            have h5 : (x.fdiv y).natAbs % 2 = 0 := by omega
            rw [h5] at hpar
            clear hs1 hs2 hb hfit ft hr hx hy hp fr hq hm ht ho vq vr vt vo hc hv hlen h1 h2 h3 h4 h5
            go_enter_defers Tryz.func108, Tryz.ntmps108
            go_wp2_with fail
            refine (fcheck_any n1 n2 A1 A2 l1 l2 c1 c2 _ (((S1.out.alloc _).alloc _).alloc _) (((S2.out.alloc _).alloc _).alloc _)).mono ?_
            rw [e1.out]
            rintro e w1 ⟨rfl, hb⟩
            replace S1 := kS3 S1 hb
            replace S2 := kS3 S2 hb
            have Fo : Hid (Fw w1 (w.heap.size + 1)) := Fw.keep (Fw.keep (Fw.fresh (by simp) _ _) (Cw.fresh (by simp) _ _ _ _ _) (blw1 _ _)) (Cw.keep (Cw.fresh (by simp) _ _ _ _ _) (blw1 _ _)) hb
            have Ka : Hid (Cf w1 w.heap.size n1 A1 l1.length c1 n2 A2 l2.length c2) := Cf.keep (Cf.keep (Cf.keep (Cf.fresh (by simp) _ _ _ _ _ _ _ _ _) (blw1 _ _)) (blw1 _ _)) hb
            have Ko : Hid (Cw w1 (w.heap.size + 1) false none 0 0) := Cw.keep (Cw.keep (Cw.fresh (by simp) _ _ _ _ _) (blw1 _ _)) hb
            have Ke : Hid (C1 w1 (w.heap.size + 1 + 1) (.int .i64 0)) := C1.keep (C1.fresh (by simp) _ _) hb
            replace B := kB3 B hb
            clear hb
            obtain ⟨qa0, qa1, qa2, qa3⟩ := Ka.out
            have hza := lF Ka
            have hzo := lW Ko
            have hze := lC Ke
            go_wp2_with fail
            refine (want_ok _).mono ?_
            rintro e w2 ⟨rfl, hb⟩
            clear qa0 qa1 qa2 qa3
            replace S1 := kS S1 hb
            replace S2 := kS S2 hb
            replace Fo := kFw Fo Ko hb
            replace Ka := kF Ka hb
            replace Ko := kW Ko hb
            replace Ke := kC Ke hb
            replace B := kB B hb
            clear hb
            obtain ⟨qa0, qa1, qa2, qa3⟩ := Ka.out
            obtain ⟨qe0, qe1⟩ := Ke.out
            replace hza := lF Ka
            replace hzo := lW Ko
            replace hze := lC Ke
            go_wp2_with fail
            refine (wdivmod_any _ _ _ _ _ _ _ _ _ S1.out S2.out).mono ?_
            rw [e3.out]
            rintro e w3 ⟨A3, c3, B3, d3, rfl, hsq, hsr, hb⟩
            clear qa0 qa1 qa2 qa3 qe0 qe1
            replace S1 := kS S1 hb
            replace S2 := kS S2 hb
            replace Fo := kFw Fo Ko hb
            replace Ka := kF Ka hb
            replace Ko := kW Ko hb
            replace Ke := kC Ke hb
            replace B := kB B hb
            clear hb
            (try dsimp only at hsq hsr)
            (try dsimp only)
            have Sq : Hid (Sl w3 A3 lq c3) := hsq
            clear hsq
            have Sr : Hid (Sl w3 B3 lr d3) := hsr
            clear hsr
            obtain ⟨qe0, qe1⟩ := Ke.out
            replace hza := lF Ka
            replace hzo := lW Ko
            replace hze := lC Ke
            have hkaq := hza
            have hkoq := hzo
            have hkeq := hze
            have hkar := hza
            have hkor := hzo
            have hker := hze
            go_wp2_with fail
            refine (want_ok _).mono ?_
            rintro e w4 ⟨rfl, hb⟩
            clear qe0 qe1
            replace S1 : Hid (Sl w4 A1 l1 c1) := Sl.below (((S1.out.set1' Ke.out.1 (by decide) _).alloc _).alloc _) hb
            replace S2 : Hid (Sl w4 A2 l2 c2) := Sl.below (((S2.out.set1' Ke.out.1 (by decide) _).alloc _).alloc _) hb
            replace Sq : Hid (Sl w4 A3 lq c3) := Sl.below (((Sq.out.set1' Ke.out.1 (by decide) _).alloc _).alloc _) hb
            replace Sr : Hid (Sl w4 B3 lr d3) := Sl.below (((Sr.out.set1' Ke.out.1 (by decide) _).alloc _).alloc _) hb
            replace Fo : Hid (Fw w4 (w.heap.size + 1)) := Fw.keep (Fw.keep (Fw.keep (Fw.set1 Fo.out _) (Cw.set1 Ko.out (by omega) _) (blw1 _ _)) (Cw.keep (Cw.set1 Ko.out (by omega) _) (blw1 _ _)) (blw1 _ _)) (Cw.keep (Cw.keep (Cw.set1 Ko.out (by omega) _) (blw1 _ _)) (blw1 _ _)) hb
            have Fq : Hid (Fw w4 w3.heap.size) := Fw.keep (Fw.keep (Fw.fresh (by simp) _ _) (Cw.fresh (by simp) _ _ _ _ _) (blw1 _ _)) (Cw.keep (Cw.fresh (by simp) _ _ _ _ _) (blw1 _ _)) hb
            replace Ka : Hid (Cf w4 w.heap.size n1 A1 l1.length c1 n2 A2 l2.length c2) := Cf.keep (Cf.keep (Cf.keep (Cf.set1 Ka.out (by omega) _) (blw1 _ _)) (blw1 _ _)) hb
            replace Ko : Hid (Cw w4 (w.heap.size + 1) false none 0 0) := Cw.keep (Cw.keep (Cw.keep (Cw.set1 Ko.out (by omega) _) (blw1 _ _)) (blw1 _ _)) hb
            replace Ke : Hid (C1 w4 (w.heap.size + 1 + 1) (.int .i64 0)) := C1.keep (C1.keep (C1.keep (C1.new Ke.out _) (blw1 _ _)) (blw1 _ _)) hb
            have Kq : Hid (Cw w4 w3.heap.size nq A3 lq.length c3) := Cw.keep (Cw.keep (Cw.fresh (by simp) _ _ _ _ _) (blw1 _ _)) hb
            have Kr : Hid (Cw w4 (w3.heap.size + 1) nr B3 lr.length d3) := Cw.keep (Cw.fresh (by simp) _ _ _ _ _) hb
            replace B : Hid (Below w.heap.size w w4) := below_mono (below_mono (below_mono (Below.setCell B.out (p := ⟨w.heap.size + 1 + 1, 0, none⟩) (by simp <;> omega) _) (blw1 _ _)) (blw1 _ _)) hb
            clear hb
            go_wp2_with fail
            have KaX : Hid (Cf w4.drew w.heap.size n1 A1 l1.length c1 n2 A2 l2.length c2) := Ka.out
            have KoX : Hid (Cw w4.drew (w.heap.size + 1) false none 0 0) := Ko.out
            have KeX : Hid (C1 w4.drew (w.heap.size + 1 + 1) (.int .i64 0)) := Ke.out
            have KqX : Hid (Cw w4.drew w3.heap.size nq A3 lq.length c3) := Kq.out
            have KrX : Hid (Cw w4.drew (w3.heap.size + 1) nr B3 lr.length d3) := Kr.out
            have FoX : Hid (Fw w4.drew (w.heap.size + 1)) := Fo.out
            have FqX : Hid (Fw w4.drew w3.heap.size) := Fq.out
            have S1X : Hid (Sl w4.drew A1 l1 c1) := Sl.drew S1.out
            have S2X : Hid (Sl w4.drew A2 l2 c2) := Sl.drew S2.out
            have SqX : Hid (Sl w4.drew A3 lq c3) := Sl.drew Sq.out
            have SrX : Hid (Sl w4.drew B3 lr d3) := Sl.drew Sr.out
            have BX : Hid (Below w.heap.size w w4.drew) := Below.drew B.out
            clear Ka Ko Ke Kq Kr Fo Fq S1 S2 Sq Sr B
            have J0 : Hid (w4.drew.cell? ⟨w.heap.size, 0, none⟩ = some (.bool n1) ∧ w4.drew.cell? ⟨w.heap.size, 1, none⟩ = some (.slice A1 l1.length c1) ∧ w4.drew.cell? ⟨w.heap.size, 2, none⟩ = some (.bool n2) ∧ w4.drew.cell? ⟨w.heap.size, 3, none⟩ = some (.slice A2 l2.length c2) ∧ w4.drew.cell? ⟨w3.heap.size + 1, 0, none⟩ = some (.bool nr) ∧ w4.drew.cell? ⟨w3.heap.size + 1, 1, none⟩ = some (.slice B3 lr.length d3)) := ⟨KaX.out.1, KaX.out.2.1, KaX.out.2.2.1, KaX.out.2.2.2, KrX.out.1, KrX.out.2⟩
            go_region_held3 (fun w' => w'.cell? ⟨w.heap.size, 0, none⟩ = some (.bool n1) ∧ w'.cell? ⟨w.heap.size, 1, none⟩ = some (.slice A1 l1.length c1) ∧ w'.cell? ⟨w.heap.size, 2, none⟩ = some (.bool n2) ∧ w'.cell? ⟨w.heap.size, 3, none⟩ = some (.slice A2 l2.length c2) ∧ w'.cell? ⟨w3.heap.size + 1, 0, none⟩ = some (.bool nr) ∧ w'.cell? ⟨w3.heap.size + 1, 1, none⟩ = some (.slice B3 lr.length d3))
              (first | with_reducible exact J3.out | with_reducible exact J2.out | with_reducible exact J1.out | with_reducible exact J0.out)
              (first
                | (go_at_call 121; (with_reducible refine (wadd_any nr nr _ _ lr lr _ _ _ SrX.out SrX.out).mono ?_); rw [e4.out]; rintro e v1 ⟨A5, c5, rfl, hs5, hb⟩; (try dsimp only at hs5); (try dsimp only); have S5v1 : Hid (Sl v1 A5 lt c5) := hs5; have Kav1 := Lib.hid (KaX.out.keep hb); have Fov1 := Lib.hid (Fw.keep FoX.out KoX.out hb); have Kov1 := Lib.hid (KoX.out.keep hb); have Kev1 := Lib.hid (KeX.out.keep hb); have Fqv1 := Lib.hid (Fw.keep FqX.out KqX.out hb); have Kqv1 := Lib.hid (KqX.out.keep hb); have Krv1 := Lib.hid (KrX.out.keep hb); have S2v1 := Lib.hid (S2X.out.below hb); have Sqv1 := Lib.hid (SqX.out.below hb); have Bv1 := Lib.hid (below_mono BX.out hb); have J1 : Hid (v1.cell? ⟨w.heap.size, 0, none⟩ = some (.bool n1) ∧ v1.cell? ⟨w.heap.size, 1, none⟩ = some (.slice A1 l1.length c1) ∧ v1.cell? ⟨w.heap.size, 2, none⟩ = some (.bool n2) ∧ v1.cell? ⟨w.heap.size, 3, none⟩ = some (.slice A2 l2.length c2) ∧ v1.cell? ⟨w3.heap.size + 1, 0, none⟩ = some (.bool nr) ∧ v1.cell? ⟨w3.heap.size + 1, 1, none⟩ = some (.slice B3 lr.length d3)) := ⟨Kav1.out.1, Kav1.out.2.1, Kav1.out.2.2.1, Kav1.out.2.2.2, Krv1.out.1, Krv1.out.2⟩; clear hb hs5)
                | (go_at_call 96; (with_reducible refine (must_ok nt A5 lt.length c5 _).mono ?_); rintro e v2 ⟨rfl, hb⟩; have Kav2 := Lib.hid (Kav1.out.keep hb); have Fov2 := Lib.hid (Fw.keep Fov1.out Kov1.out hb); have Kov2 := Lib.hid (Kov1.out.keep hb); have Kev2 := Lib.hid (Kev1.out.keep hb); have Fqv2 := Lib.hid (Fw.keep Fqv1.out Kqv1.out hb); have Kqv2 := Lib.hid (Kqv1.out.keep hb); have Krv2 := Lib.hid (Krv1.out.keep hb); have S2v2 := Lib.hid (S2v1.out.below hb); have Sqv2 := Lib.hid (Sqv1.out.below hb); have S5v2 := Lib.hid (S5v1.out.below hb); have Bv2 := Lib.hid (below_mono Bv1.out hb); have J2 : Hid (v2.cell? ⟨w.heap.size, 0, none⟩ = some (.bool n1) ∧ v2.cell? ⟨w.heap.size, 1, none⟩ = some (.slice A1 l1.length c1) ∧ v2.cell? ⟨w.heap.size, 2, none⟩ = some (.bool n2) ∧ v2.cell? ⟨w.heap.size, 3, none⟩ = some (.slice A2 l2.length c2) ∧ v2.cell? ⟨w3.heap.size + 1, 0, none⟩ = some (.bool nr) ∧ v2.cell? ⟨w3.heap.size + 1, 1, none⟩ = some (.slice B3 lr.length d3)) := ⟨Kav2.out.1, Kav2.out.2.1, Kav2.out.2.2.1, Kav2.out.2.2.2, Krv2.out.1, Krv2.out.2⟩; clear hb)
                | (go_at_call 105; (with_reducible refine (cmp_any nt n2 _ _ lt l2 _ _ _ S5v2.out S2v2.out).mono ?_); rw [e5.out]; rintro e v3 ⟨rfl, hb⟩; have Kav3 := Lib.hid (Kav2.out.keep hb); have Fov3 := Lib.hid (Fw.keep Fov2.out Kov2.out hb); have Kov3 := Lib.hid (Kov2.out.keep hb); have Kev3 := Lib.hid (Kev2.out.keep hb); have Fqv3 := Lib.hid (Fw.keep Fqv2.out Kqv2.out hb); have Kqv3 := Lib.hid (Kqv2.out.keep hb); have Krv3 := Lib.hid (Krv2.out.keep hb); have Sqv3 := Lib.hid (Sqv2.out.below hb); have Bv3 := Lib.hid (below_mono Bv2.out hb); have J3 : Hid (v3.cell? ⟨w.heap.size, 0, none⟩ = some (.bool n1) ∧ v3.cell? ⟨w.heap.size, 1, none⟩ = some (.slice A1 l1.length c1) ∧ v3.cell? ⟨w.heap.size, 2, none⟩ = some (.bool n2) ∧ v3.cell? ⟨w.heap.size, 3, none⟩ = some (.slice A2 l2.length c2) ∧ v3.cell? ⟨w3.heap.size + 1, 0, none⟩ = some (.bool nr) ∧ v3.cell? ⟨w3.heap.size + 1, 1, none⟩ = some (.slice B3 lr.length d3)) := ⟨Kav3.out.1, Kav3.out.2.1, Kav3.out.2.2.1, Kav3.out.2.2.2, Krv3.out.1, Krv3.out.2⟩; clear hb))
            obtain ⟨q0, q1⟩ := Kqv3.out
            obtain ⟨g0, g1⟩ := Fqv3.out
            obtain ⟨r0, r1⟩ := Kov3.out
            obtain ⟨g2, g3⟩ := Fov3.out
            obtain ⟨u0, u1⟩ := Kev3.out
            have hk1 : lq[0]?.getD 0 < 4294967296 := getD_lim Sqv3.out.lim 0
            obtain ⟨bq, oq, rfl, hcell⟩ := Sqv3.out.rd.at_ (k := 0) hl
            rw [Nat.add_zero] at hcell
            generalize hk0 : lq[0]?.getD 0 = k0 at *
            have hbit : (bits .and .u32 (k0 : Int) 1 == 1) = false := by rw [u32_and1 k0 hk1, hpar]; rfl
            clear hk0
            go_wp2_with fail
            refine (zero_any nq _ lq c3 _).mono ?_
            rw [hz.out]
            rintro e y1 ⟨rfl, hb⟩
            have hcell2 := kept_cell hb hcell
            have Foy1 := Lib.hid (Fw.keep Fov3.out Kov3.out hb)
            have Koy1 := Lib.hid (Kov3.out.keep hb)
            have Key1 := Lib.hid (Kev3.out.keep hb)
            have Fqy1 := Lib.hid (Fw.keep Fqv3.out Kqv3.out hb)
            have Kqy1 := Lib.hid (Kqv3.out.keep hb)
            have Sqy1 := Lib.hid (Sqv3.out.below hb)
            have By1 := Lib.hid (below_mono Bv3.out hb)
            obtain ⟨q0, q1⟩ := Kqy1.out
            obtain ⟨g0, g1⟩ := Fqy1.out
            obtain ⟨r0, r1⟩ := Koy1.out
            obtain ⟨g2, g3⟩ := Foy1.out
            obtain ⟨u0, u1⟩ := Key1.out
            have Szy1 := Sqy1
            go_wp2_with fail
            refine leaves_cons (f := 100) (args := #[.pointer (some ⟨w.heap.size + 1 + 1, 0, none⟩)]) (by simp) (by simp [go_sem]) ?_
            refine (catch_idle ⟨w.heap.size + 1 + 1, 0, none⟩ _).mono ?_
            rintro e u' w'' ⟨rfl, rfl, rfl⟩
            obtain ⟨r0, r1⟩ := Koy1.out
            obtain ⟨u0, u1⟩ := Key1.out
            simp [Leaves, settle, results, Tryz.results108, go_sem, r0, r1, u0]
            exact ⟨_, c3, rfl, ((Szy1.out.setW Koy1.out.1 Koy1.out.2 _ _).set1' (C1.setW Key1.out (by omega) _ _).1 (by decide) _), (Below.setCell (below_setW By1.out (by omega) _ _) (p := ⟨w.heap.size + 1 + 1, 0, none⟩) (by simp <;> omega) _)⟩
      · rw [if_neg (by omega), hq]
        have e5 : Hid (cmpS nt lt n2 l2 = (-1, 0)) := by rw [Hid, hc]; unfold cmpZ; rw [if_pos (by omega)]
        clear hs1 hs2 hb hfit ft hr hx hy hp fr hq hm ht ho vq vr vt vo hc hv hlen h1 h2
        go_enter_defers Tryz.func108, Tryz.ntmps108
        go_wp2_with fail
        refine (fcheck_any n1 n2 A1 A2 l1 l2 c1 c2 _ (((S1.out.alloc _).alloc _).alloc _) (((S2.out.alloc _).alloc _).alloc _)).mono ?_
        rw [e1.out]
        rintro e w1 ⟨rfl, hb⟩
        replace S1 := kS3 S1 hb
        replace S2 := kS3 S2 hb
        have Fo : Hid (Fw w1 (w.heap.size + 1)) := Fw.keep (Fw.keep (Fw.fresh (by simp) _ _) (Cw.fresh (by simp) _ _ _ _ _) (blw1 _ _)) (Cw.keep (Cw.fresh (by simp) _ _ _ _ _) (blw1 _ _)) hb
        have Ka : Hid (Cf w1 w.heap.size n1 A1 l1.length c1 n2 A2 l2.length c2) := Cf.keep (Cf.keep (Cf.keep (Cf.fresh (by simp) _ _ _ _ _ _ _ _ _) (blw1 _ _)) (blw1 _ _)) hb
        have Ko : Hid (Cw w1 (w.heap.size + 1) false none 0 0) := Cw.keep (Cw.keep (Cw.fresh (by simp) _ _ _ _ _) (blw1 _ _)) hb
        have Ke : Hid (C1 w1 (w.heap.size + 1 + 1) (.int .i64 0)) := C1.keep (C1.fresh (by simp) _ _) hb
        replace B := kB3 B hb
        clear hb
        obtain ⟨qa0, qa1, qa2, qa3⟩ := Ka.out
        have hza := lF Ka
        have hzo := lW Ko
        have hze := lC Ke
        go_wp2_with fail
        refine (want_ok _).mono ?_
        rintro e w2 ⟨rfl, hb⟩
        clear qa0 qa1 qa2 qa3
        replace S1 := kS S1 hb
        replace S2 := kS S2 hb
        replace Fo := kFw Fo Ko hb
        replace Ka := kF Ka hb
        replace Ko := kW Ko hb
        replace Ke := kC Ke hb
        replace B := kB B hb
        clear hb
        obtain ⟨qa0, qa1, qa2, qa3⟩ := Ka.out
        obtain ⟨qe0, qe1⟩ := Ke.out
        replace hza := lF Ka
        replace hzo := lW Ko
        replace hze := lC Ke
        go_wp2_with fail
        refine (wdivmod_any _ _ _ _ _ _ _ _ _ S1.out S2.out).mono ?_
        rw [e3.out]
        rintro e w3 ⟨A3, c3, B3, d3, rfl, hsq, hsr, hb⟩
        clear qa0 qa1 qa2 qa3 qe0 qe1
        replace S1 := kS S1 hb
        replace S2 := kS S2 hb
        replace Fo := kFw Fo Ko hb
        replace Ka := kF Ka hb
        replace Ko := kW Ko hb
        replace Ke := kC Ke hb
        replace B := kB B hb
        clear hb
        (try dsimp only at hsq hsr)
        (try dsimp only)
        have Sq : Hid (Sl w3 A3 lq c3) := hsq
        clear hsq
        have Sr : Hid (Sl w3 B3 lr d3) := hsr
        clear hsr
        obtain ⟨qe0, qe1⟩ := Ke.out
        replace hza := lF Ka
        replace hzo := lW Ko
        replace hze := lC Ke
        have hkaq := hza
        have hkoq := hzo
        have hkeq := hze
        have hkar := hza
        have hkor := hzo
        have hker := hze
        go_wp2_with fail
        refine (want_ok _).mono ?_
        rintro e w4 ⟨rfl, hb⟩
        clear qe0 qe1
        replace S1 : Hid (Sl w4 A1 l1 c1) := Sl.below (((S1.out.set1' Ke.out.1 (by decide) _).alloc _).alloc _) hb
        replace S2 : Hid (Sl w4 A2 l2 c2) := Sl.below (((S2.out.set1' Ke.out.1 (by decide) _).alloc _).alloc _) hb
        replace Sq : Hid (Sl w4 A3 lq c3) := Sl.below (((Sq.out.set1' Ke.out.1 (by decide) _).alloc _).alloc _) hb
        replace Sr : Hid (Sl w4 B3 lr d3) := Sl.below (((Sr.out.set1' Ke.out.1 (by decide) _).alloc _).alloc _) hb
        replace Fo : Hid (Fw w4 (w.heap.size + 1)) := Fw.keep (Fw.keep (Fw.keep (Fw.set1 Fo.out _) (Cw.set1 Ko.out (by omega) _) (blw1 _ _)) (Cw.keep (Cw.set1 Ko.out (by omega) _) (blw1 _ _)) (blw1 _ _)) (Cw.keep (Cw.keep (Cw.set1 Ko.out (by omega) _) (blw1 _ _)) (blw1 _ _)) hb
        have Fq : Hid (Fw w4 w3.heap.size) := Fw.keep (Fw.keep (Fw.fresh (by simp) _ _) (Cw.fresh (by simp) _ _ _ _ _) (blw1 _ _)) (Cw.keep (Cw.fresh (by simp) _ _ _ _ _) (blw1 _ _)) hb
        replace Ka : Hid (Cf w4 w.heap.size n1 A1 l1.length c1 n2 A2 l2.length c2) := Cf.keep (Cf.keep (Cf.keep (Cf.set1 Ka.out (by omega) _) (blw1 _ _)) (blw1 _ _)) hb
        replace Ko : Hid (Cw w4 (w.heap.size + 1) false none 0 0) := Cw.keep (Cw.keep (Cw.keep (Cw.set1 Ko.out (by omega) _) (blw1 _ _)) (blw1 _ _)) hb
        replace Ke : Hid (C1 w4 (w.heap.size + 1 + 1) (.int .i64 0)) := C1.keep (C1.keep (C1.keep (C1.new Ke.out _) (blw1 _ _)) (blw1 _ _)) hb
        have Kq : Hid (Cw w4 w3.heap.size nq A3 lq.length c3) := Cw.keep (Cw.keep (Cw.fresh (by simp) _ _ _ _ _) (blw1 _ _)) hb
        have Kr : Hid (Cw w4 (w3.heap.size + 1) nr B3 lr.length d3) := Cw.keep (Cw.fresh (by simp) _ _ _ _ _) hb
        replace B : Hid (Below w.heap.size w w4) := below_mono (below_mono (below_mono (Below.setCell B.out (p := ⟨w.heap.size + 1 + 1, 0, none⟩) (by simp <;> omega) _) (blw1 _ _)) (blw1 _ _)) hb
        clear hb
        go_wp2_with fail
        have KaX : Hid (Cf w4.drew w.heap.size n1 A1 l1.length c1 n2 A2 l2.length c2) := Ka.out
        have KoX : Hid (Cw w4.drew (w.heap.size + 1) false none 0 0) := Ko.out
        have KeX : Hid (C1 w4.drew (w.heap.size + 1 + 1) (.int .i64 0)) := Ke.out
        have KqX : Hid (Cw w4.drew w3.heap.size nq A3 lq.length c3) := Kq.out
        have KrX : Hid (Cw w4.drew (w3.heap.size + 1) nr B3 lr.length d3) := Kr.out
        have FoX : Hid (Fw w4.drew (w.heap.size + 1)) := Fo.out
        have FqX : Hid (Fw w4.drew w3.heap.size) := Fq.out
        have S1X : Hid (Sl w4.drew A1 l1 c1) := Sl.drew S1.out
        have S2X : Hid (Sl w4.drew A2 l2 c2) := Sl.drew S2.out
        have SqX : Hid (Sl w4.drew A3 lq c3) := Sl.drew Sq.out
        have SrX : Hid (Sl w4.drew B3 lr d3) := Sl.drew Sr.out
        have BX : Hid (Below w.heap.size w w4.drew) := Below.drew B.out
        clear Ka Ko Ke Kq Kr Fo Fq S1 S2 Sq Sr B
        have J0 : Hid (w4.drew.cell? ⟨w.heap.size, 0, none⟩ = some (.bool n1) ∧ w4.drew.cell? ⟨w.heap.size, 1, none⟩ = some (.slice A1 l1.length c1) ∧ w4.drew.cell? ⟨w.heap.size, 2, none⟩ = some (.bool n2) ∧ w4.drew.cell? ⟨w.heap.size, 3, none⟩ = some (.slice A2 l2.length c2) ∧ w4.drew.cell? ⟨w3.heap.size + 1, 0, none⟩ = some (.bool nr) ∧ w4.drew.cell? ⟨w3.heap.size + 1, 1, none⟩ = some (.slice B3 lr.length d3)) := ⟨KaX.out.1, KaX.out.2.1, KaX.out.2.2.1, KaX.out.2.2.2, KrX.out.1, KrX.out.2⟩
        go_region_held3 (fun w' => w'.cell? ⟨w.heap.size, 0, none⟩ = some (.bool n1) ∧ w'.cell? ⟨w.heap.size, 1, none⟩ = some (.slice A1 l1.length c1) ∧ w'.cell? ⟨w.heap.size, 2, none⟩ = some (.bool n2) ∧ w'.cell? ⟨w.heap.size, 3, none⟩ = some (.slice A2 l2.length c2) ∧ w'.cell? ⟨w3.heap.size + 1, 0, none⟩ = some (.bool nr) ∧ w'.cell? ⟨w3.heap.size + 1, 1, none⟩ = some (.slice B3 lr.length d3))
          (first | with_reducible exact J3.out | with_reducible exact J2.out | with_reducible exact J1.out | with_reducible exact J0.out)
          (first
            | (go_at_call 121; (with_reducible refine (wadd_any nr nr _ _ lr lr _ _ _ SrX.out SrX.out).mono ?_); rw [e4.out]; rintro e v1 ⟨A5, c5, rfl, hs5, hb⟩; (try dsimp only at hs5); (try dsimp only); have S5v1 : Hid (Sl v1 A5 lt c5) := hs5; have Kav1 := Lib.hid (KaX.out.keep hb); have Fov1 := Lib.hid (Fw.keep FoX.out KoX.out hb); have Kov1 := Lib.hid (KoX.out.keep hb); have Kev1 := Lib.hid (KeX.out.keep hb); have Fqv1 := Lib.hid (Fw.keep FqX.out KqX.out hb); have Kqv1 := Lib.hid (KqX.out.keep hb); have Krv1 := Lib.hid (KrX.out.keep hb); have S2v1 := Lib.hid (S2X.out.below hb); have Sqv1 := Lib.hid (SqX.out.below hb); have Bv1 := Lib.hid (below_mono BX.out hb); have J1 : Hid (v1.cell? ⟨w.heap.size, 0, none⟩ = some (.bool n1) ∧ v1.cell? ⟨w.heap.size, 1, none⟩ = some (.slice A1 l1.length c1) ∧ v1.cell? ⟨w.heap.size, 2, none⟩ = some (.bool n2) ∧ v1.cell? ⟨w.heap.size, 3, none⟩ = some (.slice A2 l2.length c2) ∧ v1.cell? ⟨w3.heap.size + 1, 0, none⟩ = some (.bool nr) ∧ v1.cell? ⟨w3.heap.size + 1, 1, none⟩ = some (.slice B3 lr.length d3)) := ⟨Kav1.out.1, Kav1.out.2.1, Kav1.out.2.2.1, Kav1.out.2.2.2, Krv1.out.1, Krv1.out.2⟩; clear hb hs5)
            | (go_at_call 96; (with_reducible refine (must_ok nt A5 lt.length c5 _).mono ?_); rintro e v2 ⟨rfl, hb⟩; have Kav2 := Lib.hid (Kav1.out.keep hb); have Fov2 := Lib.hid (Fw.keep Fov1.out Kov1.out hb); have Kov2 := Lib.hid (Kov1.out.keep hb); have Kev2 := Lib.hid (Kev1.out.keep hb); have Fqv2 := Lib.hid (Fw.keep Fqv1.out Kqv1.out hb); have Kqv2 := Lib.hid (Kqv1.out.keep hb); have Krv2 := Lib.hid (Krv1.out.keep hb); have S2v2 := Lib.hid (S2v1.out.below hb); have Sqv2 := Lib.hid (Sqv1.out.below hb); have S5v2 := Lib.hid (S5v1.out.below hb); have Bv2 := Lib.hid (below_mono Bv1.out hb); have J2 : Hid (v2.cell? ⟨w.heap.size, 0, none⟩ = some (.bool n1) ∧ v2.cell? ⟨w.heap.size, 1, none⟩ = some (.slice A1 l1.length c1) ∧ v2.cell? ⟨w.heap.size, 2, none⟩ = some (.bool n2) ∧ v2.cell? ⟨w.heap.size, 3, none⟩ = some (.slice A2 l2.length c2) ∧ v2.cell? ⟨w3.heap.size + 1, 0, none⟩ = some (.bool nr) ∧ v2.cell? ⟨w3.heap.size + 1, 1, none⟩ = some (.slice B3 lr.length d3)) := ⟨Kav2.out.1, Kav2.out.2.1, Kav2.out.2.2.1, Kav2.out.2.2.2, Krv2.out.1, Krv2.out.2⟩; clear hb)
            | (go_at_call 105; (with_reducible refine (cmp_any nt n2 _ _ lt l2 _ _ _ S5v2.out S2v2.out).mono ?_); rw [e5.out]; rintro e v3 ⟨rfl, hb⟩; have Kav3 := Lib.hid (Kav2.out.keep hb); have Fov3 := Lib.hid (Fw.keep Fov2.out Kov2.out hb); have Kov3 := Lib.hid (Kov2.out.keep hb); have Kev3 := Lib.hid (Kev2.out.keep hb); have Fqv3 := Lib.hid (Fw.keep Fqv2.out Kqv2.out hb); have Kqv3 := Lib.hid (Kqv2.out.keep hb); have Krv3 := Lib.hid (Krv2.out.keep hb); have Sqv3 := Lib.hid (Sqv2.out.below hb); have Bv3 := Lib.hid (below_mono Bv2.out hb); have J3 : Hid (v3.cell? ⟨w.heap.size, 0, none⟩ = some (.bool n1) ∧ v3.cell? ⟨w.heap.size, 1, none⟩ = some (.slice A1 l1.length c1) ∧ v3.cell? ⟨w.heap.size, 2, none⟩ = some (.bool n2) ∧ v3.cell? ⟨w.heap.size, 3, none⟩ = some (.slice A2 l2.length c2) ∧ v3.cell? ⟨w3.heap.size + 1, 0, none⟩ = some (.bool nr) ∧ v3.cell? ⟨w3.heap.size + 1, 1, none⟩ = some (.slice B3 lr.length d3)) := ⟨Kav3.out.1, Kav3.out.2.1, Kav3.out.2.2.1, Kav3.out.2.2.2, Krv3.out.1, Krv3.out.2⟩; clear hb))
        have Szv3 := Sqv3
        obtain ⟨q0, q1⟩ := Kqv3.out
        obtain ⟨g0, g1⟩ := Fqv3.out
        obtain ⟨r0, r1⟩ := Kov3.out
        obtain ⟨g2, g3⟩ := Fov3.out
        obtain ⟨u0, u1⟩ := Kev3.out
        go_wp2_with fail
        refine leaves_cons (f := 100) (args := #[.pointer (some ⟨w.heap.size + 1 + 1, 0, none⟩)]) (by simp) (by simp [go_sem]) ?_
        refine (catch_idle ⟨w.heap.size + 1 + 1, 0, none⟩ _).mono ?_
        rintro e u' w'' ⟨rfl, rfl, rfl⟩
        obtain ⟨r0, r1⟩ := Kov3.out
        obtain ⟨u0, u1⟩ := Kev3.out
        simp [Leaves, settle, results, Tryz.results108, go_sem, r0, r1, u0]
        exact ⟨A3, c3, rfl, ((Szv3.out.setW Kov3.out.1 Kov3.out.2 _ _).set1' (C1.setW Kev3.out (by omega) _ _).1 (by decide) _), (Below.setCell (below_setW Bv3.out (by omega) _ _) (p := ⟨w.heap.size + 1 + 1, 0, none⟩) (by simp <;> omega) _)⟩

end Go.Proofs.YtlekjkljajeodaaGreat

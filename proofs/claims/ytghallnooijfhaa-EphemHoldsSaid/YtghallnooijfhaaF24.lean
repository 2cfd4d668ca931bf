import Derived.Test.YtghallnooijfhaaMg5
namespace Go.Proofs.Ytghallnooijfhaa
open Go.RowKit
attribute [local go_sem ↓] Go.wp_at_zero Go.wp_at_succ
def fceilS (n1 : Bool) (l1 : List Nat) (n2 : Bool) (l2 : List Nat) : (Bool × List Nat) × Int := if badF n1 l1 n2 l2 then ((false, []), 8) else (wOf (ceilZ (zv n1 l1) (zv n2 l2)), 0)

set_option maxRecDepth 100000 in
set_option maxHeartbeats 2000000 in
theorem fceil_any (n1 n2 : Bool) (A1 A2 : Option Addr) (l1 l2 : List Nat) (c1 c2 : Nat) (w : World) (hs1 : Sl w A1 l1 c1) (hs2 : Sl w A2 l2 c2) :
    Calls Try.prog 44 #[.agg #[.bool n1, .slice A1 l1.length c1, .bool n2, .slice A2 l2.length c2]] w (WRes (fceilS n1 l1 n2 l2) w) := by
  have S1 := Lib.hid hs1
  have S2 := Lib.hid hs2
  have B : Hid (Below w.heap.size w w) := Below.refl _ _
  cases hb : badF n1 l1 n2 l2 with
  | true =>
    have hr : fceilS n1 l1 n2 l2 = ((false, []), 8) := by unfold fceilS; rw [hb]; rfl
    have e1 : Hid (chkF n1 l1 n2 l2 = 8) := by unfold chkF; rw [hb]; rfl
    rw [hr]
    clear hs1 hs2 hr hb
    go_enter_defers Try.func44, Try.ntmps44
    go_wp2_with fail
    refine (fcheck_any n1 n2 A1 A2 l1 l2 c1 c2 _ (((S1.out.alloc _).alloc _).alloc _) (((S2.out.alloc _).alloc _).alloc _)).mono ?_
    rw [e1.out]
    rintro e w1 ⟨rfl, hb⟩
    replace S1 := kS3 S1 hb
    replace S2 := kS3 S2 hb
    have Fo : Hid (Fw w1 (w.heap.size + 1)) := Fw.keep (Fw.keep (Fw.fresh (by simp) _ _) (Cw.fresh (by simp) _ _ _ _ _) (blw1 _ _)) (Cw.keep (Cw.fresh (by simp) _ _ _ _ _) (blw1 _ _)) hb
    have Ka : Hid (Cf w1 w.heap.size n1 A1 l1.length c1 n2 A2 l2.length c2) := Cf.keep (Cf.keep (Cf.keep (Cf.fresh (by simp) _ _ _ _ _ _ _ _ _) (blw1 _ _)) (blw1 _ _)) hb
    have Ko : Hid (Cw w1 (w.heap.size + 1) false none 0 0) := Cw.keep (Cw.keep (Cw.fresh (by simp) _ _ _ _ _) (blw1 _ _)) hb
    have Ke : Hid (C1 w1 (w.heap.size + 1 + 1) (.int .i64 0)) := C1.keep (C1.fresh (by simp) _ _) hb
    replace B := kB3 B hb
    clear hb
    obtain ⟨qa0, qa1, qa2, qa3⟩ := Ka.out
    have hza := lF Ka
    have hzo := lW Ko
    have hze := lC Ke
    go_wp2_with fail
    refine (want_bad 8 (by decide) _).mono ?_
    rintro e w2 ⟨rfl, hb⟩
    clear qa0 qa1 qa2 qa3
    replace S1 := kS S1 hb
    replace S2 := kS S2 hb
    replace Fo := kFw Fo Ko hb
    replace Ka := kF Ka hb
    replace Ko := kW Ko hb
    replace Ke := kC Ke hb
    replace B := kB B hb
    clear hb
    go_wp2_with fail
    refine leaves_cons (f := 48) (args := #[.pointer (some ⟨w.heap.size + 1 + 1, 0, none⟩)]) (by simp) (by simp [go_sem]) ?_
    refine (catch_fall (w.heap.size + 1 + 1) 0 8 [] _ Ke.out).mono ?_
    rintro e u' w'' ⟨rfl, rfl, ob, rfl⟩
    obtain ⟨qo0, qo1⟩ := Ko.out
    obtain ⟨fo0, fo1⟩ := Fo.out
    have hze2 : w.heap.size + 1 < w2.heap.size := lt_of_cell (a := ⟨w.heap.size + 1, 0, none⟩) qo0
    have hze3 := lC Ke
    simp [Leaves, settle, results, Try.results44, go_sem, qo0, qo1, hze2, hze3, Ke.out.1]
    exact wres_fall 8 B.out (by omega) _ _
  | false =>
    have e1 : Hid (chkF n1 l1 n2 l2 = 0) := by unfold chkF; rw [hb]; rfl
    obtain ⟨hx, hy, hp, _⟩ := vf_of hs1.lim hs2.lim hb
    have hr : fceilS n1 l1 n2 l2 = (wOf (ceilZ (zv n1 l1) (zv n2 l2)), 0) := by unfold fceilS; rw [hb]; rfl
    rw [hr]
    generalize zv n1 l1 = x at *
    generalize zv n2 l2 = y at *
    have fr := ceil_fit hp hx.2
    obtain ⟨⟨nq, lq⟩, hq⟩ : ∃ p, p = wOf (x.fdiv y) := ⟨_, rfl⟩
    obtain ⟨⟨nr, lr⟩, hm⟩ : ∃ p, p = wOf (x.fmod y) := ⟨_, rfl⟩
    obtain ⟨⟨no, lo⟩, ho⟩ : ∃ p, p = wOf (1 : Int) := ⟨_, rfl⟩
    have vq := vz_mk hq (fit_fdiv (y := y) hx.2)
    have vr := vz_mk hm (fit_fmod (x := x) (by omega) hy.2)
    have vo := vz_mk ho fit_one
    have hO : Hid (∀ W, Calls Try.prog 69 #[] W (WRes1 (no, lo) W)) := fun W => by rw [ho]; exact one_any W
    have e3 : Hid (dmS n1 l1 n2 l2 = ((nq, lq), (nr, lr), 0)) := by rw [Hid, dmS_z hx hy (by omega), hq, hm]
    by_cases h0 : x.fmod y = 0
    · have hcz : ceilZ x y = x.fdiv y := if_pos h0
      have hz : Hid (((lr.length : Int) == 0) = true) := by rw [Hid, beq_iff_eq]; have := vr.zero.2 h0; omega
      rw [hcz, ← hq]
      clear hs1 hs2 hb hr hx hy hp fr hq hm ho vq vr vo hO h0 hcz
      go_enter_defers Try.func44, Try.ntmps44
      go_wp2_with fail
      refine (fcheck_any n1 n2 A1 A2 l1 l2 c1 c2 _ (((S1.out.alloc _).alloc _).alloc _) (((S2.out.alloc _).alloc _).alloc _)).mono ?_
      rw [e1.out]
      rintro e w1 ⟨rfl, hb⟩
      replace S1 := kS3 S1 hb
      replace S2 := kS3 S2 hb
      have Fo : Hid (Fw w1 (w.heap.size + 1)) := Fw.keep (Fw.keep (Fw.fresh (by simp) _ _) (Cw.fresh (by simp) _ _ _ _ _) (blw1 _ _)) (Cw.keep (Cw.fresh (by simp) _ _ _ _ _) (blw1 _ _)) hb
      have Ka : Hid (Cf w1 w.heap.size n1 A1 l1.length c1 n2 A2 l2.length c2) := Cf.keep (Cf.keep (Cf.keep (Cf.fresh (by simp) _ _ _ _ _ _ _ _ _) (blw1 _ _)) (blw1 _ _)) hb
      have Ko : Hid (Cw w1 (w.heap.size + 1) false none 0 0) := Cw.keep (Cw.keep (Cw.fresh (by simp) _ _ _ _ _) (blw1 _ _)) hb
      have Ke : Hid (C1 w1 (w.heap.size + 1 + 1) (.int .i64 0)) := C1.keep (C1.fresh (by simp) _ _) hb
      replace B := kB3 B hb
      clear hb
      obtain ⟨qa0, qa1, qa2, qa3⟩ := Ka.out
      have hza := lF Ka
      have hzo := lW Ko
      have hze := lC Ke
      go_wp2_with fail
      refine (want_ok _).mono ?_
      rintro e w2 ⟨rfl, hb⟩
      clear qa0 qa1 qa2 qa3
      replace S1 := kS S1 hb
      replace S2 := kS S2 hb
      replace Fo := kFw Fo Ko hb
      replace Ka := kF Ka hb
      replace Ko := kW Ko hb
      replace Ke := kC Ke hb
      replace B := kB B hb
      clear hb
      obtain ⟨qa0, qa1, qa2, qa3⟩ := Ka.out
      obtain ⟨qe0, qe1⟩ := Ke.out
      replace hza := lF Ka
      replace hzo := lW Ko
      replace hze := lC Ke
      go_wp2_with fail
      refine (wdivmod_any _ _ _ _ _ _ _ _ _ S1.out S2.out).mono ?_
      rw [e3.out]
      rintro e w3 ⟨A3, c3, B3, d3, rfl, hsq, hsr, hb⟩
      clear qa0 qa1 qa2 qa3 qe0 qe1
      replace S1 := kS S1 hb
      replace S2 := kS S2 hb
      replace Fo := kFw Fo Ko hb
      replace Ka := kF Ka hb
      replace Ko := kW Ko hb
      replace Ke := kC Ke hb
      replace B := kB B hb
      clear hb
      (try dsimp only at hsq hsr)
      (try dsimp only)
      have Sq : Hid (Sl w3 A3 lq c3) := hsq
      clear hsq
      have Sr : Hid (Sl w3 B3 lr d3) := hsr
      clear hsr
      obtain ⟨qe0, qe1⟩ := Ke.out
      replace hza := lF Ka
      replace hzo := lW Ko
      replace hze := lC Ke
      clear S1
      clear S2
      clear qe0 qe1
      clear Ka
      obtain ⟨qe0, qe1⟩ := Ke.out
      have hkoq := hzo
      have hkeq := hze
      have hkor := hzo
      have hker := hze
      go_wp2_with fail
      refine (want_ok _).mono ?_
      rintro e w4 ⟨rfl, hb⟩
      clear qe0 qe1
      replace Sq : Hid (Sl w4 A3 lq c3) := Sl.below (((Sq.out.set1' Ke.out.1 (by decide) _).alloc _).alloc _) hb
      replace Sr : Hid (Sl w4 B3 lr d3) := Sl.below (((Sr.out.set1' Ke.out.1 (by decide) _).alloc _).alloc _) hb
      replace Fo : Hid (Fw w4 (w.heap.size + 1)) := Fw.keep (Fw.keep (Fw.keep (Fw.set1 Fo.out _) (Cw.set1 Ko.out (by omega) _) (blw1 _ _)) (Cw.keep (Cw.set1 Ko.out (by omega) _) (blw1 _ _)) (blw1 _ _)) (Cw.keep (Cw.keep (Cw.set1 Ko.out (by omega) _) (blw1 _ _)) (blw1 _ _)) hb
      have Fq : Hid (Fw w4 w3.heap.size) := Fw.keep (Fw.keep (Fw.fresh (by simp) _ _) (Cw.fresh (by simp) _ _ _ _ _) (blw1 _ _)) (Cw.keep (Cw.fresh (by simp) _ _ _ _ _) (blw1 _ _)) hb
      replace Ko : Hid (Cw w4 (w.heap.size + 1) false none 0 0) := Cw.keep (Cw.keep (Cw.keep (Cw.set1 Ko.out (by omega) _) (blw1 _ _)) (blw1 _ _)) hb
      replace Ke : Hid (C1 w4 (w.heap.size + 1 + 1) (.int .i64 0)) := C1.keep (C1.keep (C1.keep (C1.new Ke.out _) (blw1 _ _)) (blw1 _ _)) hb
      have Kq : Hid (Cw w4 w3.heap.size nq A3 lq.length c3) := Cw.keep (Cw.keep (Cw.fresh (by simp) _ _ _ _ _) (blw1 _ _)) hb
      have Kr : Hid (Cw w4 (w3.heap.size + 1) nr B3 lr.length d3) := Cw.keep (Cw.fresh (by simp) _ _ _ _ _) hb
      replace B : Hid (Below w.heap.size w w4) := below_mono (below_mono (below_mono (Below.setCell B.out (p := ⟨w.heap.size + 1 + 1, 0, none⟩) (by simp <;> omega) _) (blw1 _ _)) (blw1 _ _)) hb
      clear hb
      replace hzo := lW Ko
      replace hze := lC Ke
      have hzq := lW Kq
      have hzr := lW Kr
      obtain ⟨qr0, qr1⟩ := Kr.out
      go_wp2_with fail
      refine (zero_any nr B3 lr d3 _).mono ?_
      rw [hz.out]
      rintro e w5 ⟨rfl, hb⟩
      clear qr0 qr1
      replace Sq := kS Sq hb
      replace Sr := kS Sr hb
      replace Fo := kFw Fo Ko hb
      replace Fq := kFw Fq Kq hb
      replace Ko := kW Ko hb
      replace Ke := kC Ke hb
      replace Kq := kW Kq hb
      replace Kr := kW Kr hb
      replace B := kB B hb
      clear hb
      clear Sr
      clear Kr
      replace hzo := lW Ko
      replace hze := lC Ke
      replace hzq := lW Kq
      obtain ⟨qq0, qq1⟩ := Kq.out
      obtain ⟨fq0, fq1⟩ := Fq.out
      obtain ⟨qo0, qo1⟩ := Ko.out
      obtain ⟨fo0, fo1⟩ := Fo.out
      obtain ⟨qe0, qe1⟩ := Ke.out
      go_wp2_with fail
      refine leaves_cons (f := 48) (args := #[.pointer (some ⟨w.heap.size + 1 + 1, 0, none⟩)]) (by simp) (by simp [go_sem]) ?_
      refine (catch_idle ⟨w.heap.size + 1 + 1, 0, none⟩ _).mono ?_
      rintro e u' w'' ⟨rfl, rfl, rfl⟩
      simp [Leaves, settle, results, Try.results44, go_sem, qo0, qo1, qe0]
      exact ⟨A3, c3, rfl, ((Sq.out.setW Ko.out.1 Ko.out.2 _ _).set1' (C1.setW Ke.out (by omega) _ _).1 (by decide) _), (Below.setCell (below_setW B.out (by omega) _ _) (p := ⟨w.heap.size + 1 + 1, 0, none⟩) (by simp <;> omega) _)⟩
    · have hcz : ceilZ x y = x.fdiv y + 1 := if_neg h0
      have hz : Hid (((lr.length : Int) == 0) = false) := by rw [Hid, beq_eq_false_iff_ne]; intro e; exact h0 (vr.zero.1 (by omega))
      rw [hcz] at fr ⊢
      obtain ⟨⟨nu, lu⟩, hu⟩ : ∃ p, p = wOf (x.fdiv y + 1) := ⟨_, rfl⟩
      have e6 : Hid (addS nq lq no lo = ((nu, lu), 0)) := by rw [hu]; exact addS_z vq vo fr
      rw [← hu]
      clear hs1 hs2 hb hr hx hy hp fr hq hm ho vq vr vo h0 hcz hu
      go_enter_defers Try.func44, Try.ntmps44
      go_wp2_with fail
      refine (fcheck_any n1 n2 A1 A2 l1 l2 c1 c2 _ (((S1.out.alloc _).alloc _).alloc _) (((S2.out.alloc _).alloc _).alloc _)).mono ?_
      rw [e1.out]
      rintro e w1 ⟨rfl, hb⟩
      replace S1 := kS3 S1 hb
      replace S2 := kS3 S2 hb
      have Fo : Hid (Fw w1 (w.heap.size + 1)) := Fw.keep (Fw.keep (Fw.fresh (by simp) _ _) (Cw.fresh (by simp) _ _ _ _ _) (blw1 _ _)) (Cw.keep (Cw.fresh (by simp) _ _ _ _ _) (blw1 _ _)) hb
      have Ka : Hid (Cf w1 w.heap.size n1 A1 l1.length c1 n2 A2 l2.length c2) := Cf.keep (Cf.keep (Cf.keep (Cf.fresh (by simp) _ _ _ _ _ _ _ _ _) (blw1 _ _)) (blw1 _ _)) hb
      have Ko : Hid (Cw w1 (w.heap.size + 1) false none 0 0) := Cw.keep (Cw.keep (Cw.fresh (by simp) _ _ _ _ _) (blw1 _ _)) hb
      have Ke : Hid (C1 w1 (w.heap.size + 1 + 1) (.int .i64 0)) := C1.keep (C1.fresh (by simp) _ _) hb
      replace B := kB3 B hb
      clear hb
      obtain ⟨qa0, qa1, qa2, qa3⟩ := Ka.out
      have hza := lF Ka
      have hzo := lW Ko
      have hze := lC Ke
      go_wp2_with fail
      refine (want_ok _).mono ?_
      rintro e w2 ⟨rfl, hb⟩
      clear qa0 qa1 qa2 qa3
      replace S1 := kS S1 hb
      replace S2 := kS S2 hb
      replace Fo := kFw Fo Ko hb
      replace Ka := kF Ka hb
      replace Ko := kW Ko hb
      replace Ke := kC Ke hb
      replace B := kB B hb
      clear hb
      obtain ⟨qa0, qa1, qa2, qa3⟩ := Ka.out
      obtain ⟨qe0, qe1⟩ := Ke.out
      replace hza := lF Ka
      replace hzo := lW Ko
      replace hze := lC Ke
      go_wp2_with fail
      refine (wdivmod_any _ _ _ _ _ _ _ _ _ S1.out S2.out).mono ?_
      rw [e3.out]
      rintro e w3 ⟨A3, c3, B3, d3, rfl, hsq, hsr, hb⟩
      clear qa0 qa1 qa2 qa3 qe0 qe1
      replace S1 := kS S1 hb
      replace S2 := kS S2 hb
      replace Fo := kFw Fo Ko hb
      replace Ka := kF Ka hb
      replace Ko := kW Ko hb
      replace Ke := kC Ke hb
      replace B := kB B hb
      clear hb
      (try dsimp only at hsq hsr)
      (try dsimp only)
      have Sq : Hid (Sl w3 A3 lq c3) := hsq
      clear hsq
      have Sr : Hid (Sl w3 B3 lr d3) := hsr
      clear hsr
      obtain ⟨qe0, qe1⟩ := Ke.out
      replace hza := lF Ka
      replace hzo := lW Ko
      replace hze := lC Ke
      clear S1
      clear S2
      clear qe0 qe1
      clear Ka
      obtain ⟨qe0, qe1⟩ := Ke.out
      have hkoq := hzo
      have hkeq := hze
      have hkor := hzo
      have hker := hze
      go_wp2_with fail
      refine (want_ok _).mono ?_
      rintro e w4 ⟨rfl, hb⟩
      clear qe0 qe1
      replace Sq : Hid (Sl w4 A3 lq c3) := Sl.below (((Sq.out.set1' Ke.out.1 (by decide) _).alloc _).alloc _) hb
      replace Sr : Hid (Sl w4 B3 lr d3) := Sl.below (((Sr.out.set1' Ke.out.1 (by decide) _).alloc _).alloc _) hb
      replace Fo : Hid (Fw w4 (w.heap.size + 1)) := Fw.keep (Fw.keep (Fw.keep (Fw.set1 Fo.out _) (Cw.set1 Ko.out (by omega) _) (blw1 _ _)) (Cw.keep (Cw.set1 Ko.out (by omega) _) (blw1 _ _)) (blw1 _ _)) (Cw.keep (Cw.keep (Cw.set1 Ko.out (by omega) _) (blw1 _ _)) (blw1 _ _)) hb
      have Fq : Hid (Fw w4 w3.heap.size) := Fw.keep (Fw.keep (Fw.fresh (by simp) _ _) (Cw.fresh (by simp) _ _ _ _ _) (blw1 _ _)) (Cw.keep (Cw.fresh (by simp) _ _ _ _ _) (blw1 _ _)) hb
      replace Ko : Hid (Cw w4 (w.heap.size + 1) false none 0 0) := Cw.keep (Cw.keep (Cw.keep (Cw.set1 Ko.out (by omega) _) (blw1 _ _)) (blw1 _ _)) hb
      replace Ke : Hid (C1 w4 (w.heap.size + 1 + 1) (.int .i64 0)) := C1.keep (C1.keep (C1.keep (C1.new Ke.out _) (blw1 _ _)) (blw1 _ _)) hb
      have Kq : Hid (Cw w4 w3.heap.size nq A3 lq.length c3) := Cw.keep (Cw.keep (Cw.fresh (by simp) _ _ _ _ _) (blw1 _ _)) hb
      have Kr : Hid (Cw w4 (w3.heap.size + 1) nr B3 lr.length d3) := Cw.keep (Cw.fresh (by simp) _ _ _ _ _) hb
      replace B : Hid (Below w.heap.size w w4) := below_mono (below_mono (below_mono (Below.setCell B.out (p := ⟨w.heap.size + 1 + 1, 0, none⟩) (by simp <;> omega) _) (blw1 _ _)) (blw1 _ _)) hb
      clear hb
      replace hzo := lW Ko
      replace hze := lC Ke
      have hzq := lW Kq
      have hzr := lW Kr
      obtain ⟨qr0, qr1⟩ := Kr.out
      go_wp2_with fail
      refine (zero_any nr B3 lr d3 _).mono ?_
      rw [hz.out]
      rintro e w5 ⟨rfl, hb⟩
      clear qr0 qr1
      replace Sq := kS Sq hb
      replace Sr := kS Sr hb
      replace Fo := kFw Fo Ko hb
      replace Fq := kFw Fq Kq hb
      replace Ko := kW Ko hb
      replace Ke := kC Ke hb
      replace Kq := kW Kq hb
      replace Kr := kW Kr hb
      replace B := kB B hb
      clear hb
      clear Sr
      clear Kr
      replace hzo := lW Ko
      replace hze := lC Ke
      replace hzq := lW Kq
      go_wp2_with fail
      have KoY : Hid (Cw w5.drew (w.heap.size + 1) false none 0 0) := Ko.out
      have FoY : Hid (Fw w5.drew (w.heap.size + 1)) := Fo.out
      have KeY : Hid (C1 w5.drew (w.heap.size + 1 + 1) (.int .i64 0)) := Ke.out
      have KqY : Hid (Cw w5.drew w3.heap.size nq A3 lq.length c3) := Kq.out
      have FqY : Hid (Fw w5.drew w3.heap.size) := Fq.out
      have SqY : Hid (Sl w5.drew A3 lq c3) := Sl.drew Sq.out
      have BY : Hid (Below w.heap.size w w5.drew) := Below.drew B.out
      obtain ⟨oq0, oq1⟩ := Kq.out
      obtain ⟨pq0, pq1⟩ := Fq.out
      refine wp_region_noPanic ?_
      go_region_with (first
        | (go_at_call 69; refine (hO.out _).mono ?_; rintro e x1 ⟨A6, c6, rfl, hs6, hb⟩; (try dsimp only at hs6); (try dsimp only); have Stx1 : Hid (Sl x1 A6 lo c6) := hs6; have Fox1 := Lib.hid (Fw.keep FoY.out KoY.out hb); have Kox1 := Lib.hid (KoY.out.keep hb); have Kex1 := Lib.hid (KeY.out.keep hb); have Fqx1 := Lib.hid (Fw.keep FqY.out KqY.out hb); have Kqx1 := Lib.hid (KqY.out.keep hb); have Sqx1 := Lib.hid (SqY.out.below hb); have Bx1 := Lib.hid (below_mono BY.out hb); obtain ⟨oq0x1, oq1x1⟩ := Kqx1.out; obtain ⟨pq0x1, pq1x1⟩ := Fqx1.out; clear hb hs6)
        | (go_at_call 42; refine (wadd_any nq no _ _ lq lo _ _ _ Sqx1.out Stx1.out).mono ?_; rw [e6.out]; rintro e x2 ⟨A7, c7, rfl, hs7, hb⟩; (try dsimp only at hs7); (try dsimp only); have Sux2 : Hid (Sl x2 A7 lu c7) := hs7; have Fox2 := Lib.hid (Fw.keep Fox1.out Kox1.out hb); have Kox2 := Lib.hid (Kox1.out.keep hb); have Kex2 := Lib.hid (Kex1.out.keep hb); have Fqx2 := Lib.hid (Fw.keep Fqx1.out Kqx1.out hb); have Kqx2 := Lib.hid (Kqx1.out.keep hb); have Sqx2 := Lib.hid (Sqx1.out.below hb); have Stx2 := Lib.hid (Stx1.out.below hb); have Bx2 := Lib.hid (below_mono Bx1.out hb); clear hb hs7)
        | (go_at_call 61; refine (must_ok nu A7 lu.length c7 _).mono ?_; rintro e x3 ⟨rfl, hb⟩; (try dsimp only); have Fox3 := Lib.hid (Fw.keep Fox2.out Kox2.out hb); have Kox3 := Lib.hid (Kox2.out.keep hb); have Kex3 := Lib.hid (Kex2.out.keep hb); have Fqx3 := Lib.hid (Fw.keep Fqx2.out Kqx2.out hb); have Kqx3 := Lib.hid (Kqx2.out.keep hb); have Sqx3 := Lib.hid (Sqx2.out.below hb); have Stx3 := Lib.hid (Stx2.out.below hb); have Sux3 := Lib.hid (Sux2.out.below hb); have Bx3 := Lib.hid (below_mono Bx2.out hb); obtain ⟨oq0x3, oq1x3⟩ := Kqx3.out; obtain ⟨pq0x3, pq1x3⟩ := Fqx3.out; clear hb))
      all_goals
        refine NoPanic.normal ?_
        have Ko := Kox3; have Fo := Fox3
        have Ke := Kex3
        have Kq := Kqx3; have Fq := Fqx3
        have Sq := Sqx3
        have St := Stx3
        have Su := Sux3
        have B := Bx3
        replace hzo := lW Ko
        replace hze := lC Ke
        replace hzq := lW Kq
        obtain ⟨qq0, qq1⟩ := Kq.out
        obtain ⟨fq0, fq1⟩ := Fq.out
        obtain ⟨qo0, qo1⟩ := Ko.out
        obtain ⟨fo0, fo1⟩ := Fo.out
        obtain ⟨qe0, qe1⟩ := Ke.out
        go_wp2_with fail
        refine leaves_cons (f := 48) (args := #[.pointer (some ⟨w.heap.size + 1 + 1, 0, none⟩)]) (by simp) (by simp [go_sem]) ?_
        refine (catch_idle ⟨w.heap.size + 1 + 1, 0, none⟩ _).mono ?_
        rintro e u' w'' ⟨rfl, rfl, rfl⟩
        simp [Leaves, settle, results, Try.results44, go_sem, qo0, qo1, qe0]
        exact ⟨A7, c7, rfl, (((Su.out.setW Kq.out.1 Kq.out.2 _ _).setW (Cw.setW Ko.out (by omega) _ _).1 (Cw.setW Ko.out (by omega) _ _).2 _ _).set1' (C1.setW (C1.setW Ke.out (by omega) _ _) (by omega) _ _).1 (by decide) _), (Below.setCell (below_setW (below_setW B.out (by omega) _ _) (by omega) _ _) (p := ⟨w.heap.size + 1 + 1, 0, none⟩) (by simp <;> omega) _)⟩

end Go.Proofs.Ytghallnooijfhaa

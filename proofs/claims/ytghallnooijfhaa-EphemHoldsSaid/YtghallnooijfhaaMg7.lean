import Derived.Test.YtghallnooijfhaaMg5
import Derived.Test.YtghallnooijfhaaW19
import Derived.Test.YtghallnooijfhaaMg1
import Derived.Deep.RegionHeld3
import Derived.Deep.RegionHeld2
import Derived.Test.YtghallnooijfhaaW6
import Derived.Test.YtghallnooijfhaaMg2
import Derived.Test.YtghallnooijfhaaMath
namespace Go.Proofs.Ytghallnooijfhaa
open Go.RowKit
attribute [local go_sem ↓] Go.wp_at_zero Go.wp_at_succ
/-- Two numbers handed back. -/
def PRes (r1 r2 : Bool × List Nat) (w : World) : Ending → World → Prop := fun e w' =>
  ∃ A c A2 c2, e = .returned (.tuple #[.agg #[.bool r1.1, .slice A r1.2.length c], .agg #[.bool r2.1, .slice A2 r2.2.length c2]]) ∧ Sl w' A r1.2 c ∧ Sl w' A2 r2.2 c2 ∧ Below w.heap.size w w'

set_option maxRecDepth 100000 in
set_option maxHeartbeats 2000000 in
theorem cross_ok (n1 n2 n3 n4 : Bool) (A1 A2 A3 A4 : Option Addr) (l1 l2 l3 l4 : List Nat) (c1 c2 c3 c4 : Nat) (x y : Int) (h1 : VZ n1 l1 x) (h4 : VZ n4 l4 y) (hf : fitZ (x * y)) (w : World) (hs1 : Sl w A1 l1 c1) (hs2 : Sl w A2 l2 c2) (hs3 : Sl w A3 l3 c3) (hs4 : Sl w A4 l4 c4) :
    Calls Try.prog 80 #[.agg #[.bool n1, .slice A1 l1.length c1, .bool n2, .slice A2 l2.length c2], .agg #[.bool n3, .slice A3 l3.length c3, .bool n4, .slice A4 l4.length c4]] w (WRes1 (wOf (x * y)) w) := by
  have S1 := Lib.hid hs1
  have S2 := Lib.hid hs2
  have S3 := Lib.hid hs3
  have S4 := Lib.hid hs4
  have B : Hid (Below w.heap.size w w) := Below.refl _ _
  obtain ⟨⟨np, lp⟩, hp⟩ : ∃ p, p = wOf (x * y) := ⟨_, rfl⟩
  have e1 : Hid (mulS n1 l1 n4 l4 = ((np, lp), 0)) := by rw [hp]; exact mulS_z h1 h4 hf
  rw [← hp]
  clear hs1 hs2 hs3 hs4 h1 h4 hf hp
  go_enter Try.func80, Try.ntmps80
  go_wp2_with fail
  refine (wmul_any _ _ _ _ _ _ _ _ _ (((S1.out.alloc _).alloc _).alloc _) (((S4.out.alloc _).alloc _).alloc _)).mono ?_
  rw [e1.out]
  rintro e w1 ⟨A5, c5, rfl, hsp, hb⟩
  replace S1 := kS3 S1 hb
  replace S2 := kS3 S2 hb
  replace S3 := kS3 S3 hb
  replace S4 := kS3 S4 hb
  have Fr : Hid (Fw w1 (w.heap.size + 1 + 1)) := Fw.keep (Fw.fresh (by simp) _ _) (Cw.fresh (by simp) _ _ _ _ _) hb
  have Ka : Hid (Cf w1 w.heap.size n1 A1 l1.length c1 n2 A2 l2.length c2) := Cf.keep (Cf.keep (Cf.keep (Cf.fresh (by simp) _ _ _ _ _ _ _ _ _) (blw1 _ _)) (blw1 _ _)) hb
  have Kb : Hid (Cf w1 (w.heap.size + 1) n3 A3 l3.length c3 n4 A4 l4.length c4) := Cf.keep (Cf.keep (Cf.fresh (by simp) _ _ _ _ _ _ _ _ _) (blw1 _ _)) hb
  have Kr : Hid (Cw w1 (w.heap.size + 1 + 1) false none 0 0) := Cw.keep (Cw.fresh (by simp) _ _ _ _ _) hb
  replace B := kB3 B hb
  clear hb
  have Sp : Hid (Sl w1 A5 lp c5) := hsp
  clear hsp
  have hza := lF Ka
  have hzb := lF Kb
  have hzr := lW Kr
  go_wp2_with fail
  refine (must_ok _ _ _ _ _).mono ?_
  rintro e w2 ⟨rfl, hb⟩
  replace S1 := kS S1 hb
  replace S2 := kS S2 hb
  replace S3 := kS S3 hb
  replace S4 := kS S4 hb
  replace Sp := kS Sp hb
  replace Fr := kFw Fr Kr hb
  replace Ka := kF Ka hb
  replace Kb := kF Kb hb
  replace Kr := kW Kr hb
  replace B := kB B hb
  clear hb
  obtain ⟨qr0, qr1⟩ := Kr.out
  obtain ⟨fr0, fr1⟩ := Fr.out
  replace hza := lF Ka
  replace hzb := lF Kb
  replace hzr := lW Kr
  go_wp2_with fail
  exact bodyPost_ret (v := .agg #[.bool np, .slice A5 lp.length c5]) (by simp [results, Try.results80, go_sem, qr0, qr1]) rfl ⟨A5, c5, rfl, Sp.out.setW qr0 qr1 _ _, below_setW B.out (by omega) _ _⟩

set_option maxRecDepth 100000 in
set_option maxHeartbeats 2000000 in
theorem both_ok (n1 n2 n3 n4 : Bool) (A1 A2 A3 A4 : Option Addr) (l1 l2 l3 l4 : List Nat) (c1 c2 c3 c4 : Nat) (F : Nat) (hF : ∀ (args : Array Value) (W : World), (callFunc F args).run Try.prog W = .ok (.enter F args) W) (h1 : chkF n1 l1 n2 l2 = 0) (h2 : chkF n3 l3 n4 l4 = 0) (m1 : Bool) (p1 : List Nat) (m2 : Bool) (p2 : List Nat) (x y : Int) (v1 : VZ m1 p1 x) (v2 : VZ m2 p2 y) (hy : y ≠ 0) (hC : ∀ W, Sl W A1 l1 c1 → Sl W A2 l2 c2 → Sl W A3 l3 c3 → Sl W A4 l4 c4 → Calls Try.prog F #[.agg #[.bool n1, .slice A1 l1.length c1, .bool n2, .slice A2 l2.length c2], .agg #[.bool n3, .slice A3 l3.length c3, .bool n4, .slice A4 l4.length c4]] W (PRes (m1, p1) (m2, p2) W)) (w : World) (hs1 : Sl w A1 l1 c1) (hs2 : Sl w A2 l2 c2) (hs3 : Sl w A3 l3 c3) (hs4 : Sl w A4 l4 c4) :
    Calls Try.prog 59 #[.agg #[.bool n1, .slice A1 l1.length c1, .bool n2, .slice A2 l2.length c2], .agg #[.bool n3, .slice A3 l3.length c3, .bool n4, .slice A4 l4.length c4], .func (.func F) #[] #[]] w (FRes (redZ x y, 0) w) := by
  have S1 := Lib.hid hs1
  have S2 := Lib.hid hs2
  have S3 := Lib.hid hs3
  have S4 := Lib.hid hs4
  have B : Hid (Below w.heap.size w w) := Below.refl _ _
  have e1 := Lib.hid h1
  have e2 := Lib.hid h2
  have HC := Lib.hid hC
  obtain ⟨⟨⟨np, lp⟩, ⟨nq, lq⟩⟩, hr⟩ : ∃ r, r = redZ x y := ⟨_, rfl⟩
  have HR : Hid (∀ W A A' c c', Sl W A p1 c → Sl W A' p2 c' → Calls Try.prog 52 #[.agg #[.bool m1, .slice A p1.length c], .agg #[.bool m2, .slice A' p2.length c']] W (FRes1 ((np, lp), (nq, lq)) W)) := fun W A A' c c' a b => by rw [hr]; exact reduce_any m1 m2 A A' p1 p2 c c' x y v1 v2 hy W a b
  rw [← hr]
  clear hr v1 v2 hy
  clear hs1 hs2 hs3 hs4 h1 h2 hC
  go_enter_defers Try.func59, Try.ntmps59
  go_wp2_with fail
  refine (fcheck_any n1 n2 A1 A2 l1 l2 c1 c2 _ ((((S1.out.alloc _).alloc _).alloc _).alloc _) ((((S2.out.alloc _).alloc _).alloc _).alloc _)).mono ?_
  rw [e1.out]
  rintro e w1 ⟨rfl, hb⟩
  replace S1 := kS4 S1 hb
  replace S2 := kS4 S2 hb
  replace S3 := kS4 S3 hb
  replace S4 := kS4 S4 hb
  have Fo : Hid (Ff w1 (w.heap.size + 1 + 1)) := Ff.keep (Ff.keep (Ff.fresh (by simp) _ _) (Cf.fresh (by simp) _ _ _ _ _ _ _ _ _) (blw1 _ _)) (Cf.keep (Cf.fresh (by simp) _ _ _ _ _ _ _ _ _) (blw1 _ _)) hb
  have Ka : Hid (Cf w1 w.heap.size n1 A1 l1.length c1 n2 A2 l2.length c2) := Cf.keep (Cf.keep (Cf.keep (Cf.keep (Cf.fresh (by simp) _ _ _ _ _ _ _ _ _) (blw1 _ _)) (blw1 _ _)) (blw1 _ _)) hb
  have Kb : Hid (Cf w1 (w.heap.size + 1) n3 A3 l3.length c3 n4 A4 l4.length c4) := Cf.keep (Cf.keep (Cf.keep (Cf.fresh (by simp) _ _ _ _ _ _ _ _ _) (blw1 _ _)) (blw1 _ _)) hb
  have Ko : Hid (Cf w1 (w.heap.size + 1 + 1) false none 0 0 false none 0 0) := Cf.keep (Cf.keep (Cf.fresh (by simp) _ _ _ _ _ _ _ _ _) (blw1 _ _)) hb
  have Ke : Hid (C1 w1 (w.heap.size + 1 + 1 + 1) (.int .i64 0)) := C1.keep (C1.fresh (by simp) _ _) hb
  replace B := kB4 B hb
  clear hb
  obtain ⟨qa0, qa1, qa2, qa3⟩ := Ka.out
  obtain ⟨qb0, qb1, qb2, qb3⟩ := Kb.out
  have hza := lF Ka
  have hzb := lF Kb
  have hzo := lF Ko
  have hze := lC Ke
  go_wp2_with fail
  refine (want_ok _).mono ?_
  rintro e w2 ⟨rfl, hb⟩
  clear qa0 qa1 qa2 qa3 qb0 qb1 qb2 qb3
  replace S1 := kS S1 hb
  replace S2 := kS S2 hb
  replace S3 := kS S3 hb
  replace S4 := kS S4 hb
  replace Fo := kFf Fo Ko hb
  replace Ka := kF Ka hb
  replace Kb := kF Kb hb
  replace Ko := kF Ko hb
  replace Ke := kC Ke hb
  replace B := kB B hb
  clear hb
  obtain ⟨qa0, qa1, qa2, qa3⟩ := Ka.out
  obtain ⟨qb0, qb1, qb2, qb3⟩ := Kb.out
  replace hza := lF Ka
  replace hzb := lF Kb
  replace hzo := lF Ko
  replace hze := lC Ke
  go_wp2_with fail
  refine (fcheck_any n3 n4 A3 A4 l3 l4 c3 c4 _ S3.out S4.out).mono ?_
  rw [e2.out]
  rintro e w3 ⟨rfl, hb⟩
  clear qa0 qa1 qa2 qa3 qb0 qb1 qb2 qb3
  replace S1 := kS S1 hb
  replace S2 := kS S2 hb
  replace S3 := kS S3 hb
  replace S4 := kS S4 hb
  replace Fo := kFf Fo Ko hb
  replace Ka := kF Ka hb
  replace Kb := kF Kb hb
  replace Ko := kF Ko hb
  replace Ke := kC Ke hb
  replace B := kB B hb
  clear hb
  obtain ⟨qa0, qa1, qa2, qa3⟩ := Ka.out
  obtain ⟨qb0, qb1, qb2, qb3⟩ := Kb.out
  replace hza := lF Ka
  replace hzb := lF Kb
  replace hzo := lF Ko
  replace hze := lC Ke
  go_wp2_with fail
  refine (want_ok _).mono ?_
  rintro e w4 ⟨rfl, hb⟩
  clear qa0 qa1 qa2 qa3 qb0 qb1 qb2 qb3
  replace S1 := kS S1 hb
  replace S2 := kS S2 hb
  replace S3 := kS S3 hb
  replace S4 := kS S4 hb
  replace Fo := kFf Fo Ko hb
  replace Ka := kF Ka hb
  replace Kb := kF Kb hb
  replace Ko := kF Ko hb
  replace Ke := kC Ke hb
  replace B := kB B hb
  clear hb
  obtain ⟨qa0, qa1, qa2, qa3⟩ := Ka.out
  obtain ⟨qb0, qb1, qb2, qb3⟩ := Kb.out
  replace hza := lF Ka
  replace hzb := lF Kb
  replace hzo := lF Ko
  replace hze := lC Ke
  go_wp2_with fail
  refine (HC.out _ S1.out S2.out S3.out S4.out).mono ?_
  rintro e w5 ⟨A5, c5, A6, c6, rfl, hsm, hsn, hb⟩
  clear qa0 qa1 qa2 qa3 qb0 qb1 qb2 qb3
  replace S1 := kS S1 hb
  replace S2 := kS S2 hb
  replace S3 := kS S3 hb
  replace S4 := kS S4 hb
  replace Fo := kFf Fo Ko hb
  replace Ka := kF Ka hb
  replace Kb := kF Kb hb
  replace Ko := kF Ko hb
  replace Ke := kC Ke hb
  replace B := kB B hb
  clear hb
  (try dsimp only at hsm hsn)
  (try dsimp only)
  have Sm : Hid (Sl w5 A5 p1 c5) := hsm
  clear hsm
  have Sn : Hid (Sl w5 A6 p2 c6) := hsn
  clear hsn
  replace hza := lF Ka
  replace hzb := lF Kb
  replace hzo := lF Ko
  replace hze := lC Ke
  go_wp2_with fail
  refine (HR.out _ _ _ _ _ Sm.out Sn.out).mono ?_
  rintro e w6 ⟨A7, c7, A8, c8, rfl, hsp, hsq, hb⟩
  replace S1 := kS S1 hb
  replace S2 := kS S2 hb
  replace S3 := kS S3 hb
  replace S4 := kS S4 hb
  replace Sm := kS Sm hb
  replace Sn := kS Sn hb
  replace Fo := kFf Fo Ko hb
  replace Ka := kF Ka hb
  replace Kb := kF Kb hb
  replace Ko := kF Ko hb
  replace Ke := kC Ke hb
  replace B := kB B hb
  clear hb
  (try dsimp only at hsp hsq)
  (try dsimp only)
  have Sp : Hid (Sl w6 A7 lp c7) := hsp
  clear hsp
  have Sq : Hid (Sl w6 A8 lq c8) := hsq
  clear hsq
  obtain ⟨qo0, qo1, qo2, qo3⟩ := Ko.out
  obtain ⟨fo0, fo1, fo2, fo3⟩ := Fo.out
  obtain ⟨qe0, qe1⟩ := Ke.out
  replace hza := lF Ka
  replace hzb := lF Kb
  replace hzo := lF Ko
  replace hze := lC Ke
  go_wp2_with fail
  refine leaves_cons (f := 48) (args := #[.pointer (some ⟨w.heap.size + 1 + 1 + 1, 0, none⟩)]) (by simp) (by simp [go_sem]) ?_
  refine (catch_idle ⟨w.heap.size + 1 + 1 + 1, 0, none⟩ _).mono ?_
  rintro e u' w'' ⟨rfl, rfl, rfl⟩
  simp [Leaves, settle, results, Try.results59, go_sem, qo0, qo1, qo2, qo3, qe0]
  exact fres_store (r := ((np, lp), (nq, lq))) 0 Sp.out Sq.out Ko.out Ke.out (by omega) B.out (by omega) (by omega) _ _ _ _ _

end Go.Proofs.Ytghallnooijfhaa
/- Walks: the calculations of frac.Add, Sub, Mul, Div. -/
namespace Go.Proofs.Ytghallnooijfhaa
open Go.RowKit
attribute [local go_sem ↓] Go.wp_at_zero Go.wp_at_succ
theorem set8 {w : World} {g ga gb : Nat} {a0 a1 a2 a3 b0 b1 b2 b3 : Value} (h : w.cell? ⟨ga, 0, none⟩ = some a0 ∧ w.cell? ⟨ga, 1, none⟩ = some a1 ∧ w.cell? ⟨ga, 2, none⟩ = some a2 ∧ w.cell? ⟨ga, 3, none⟩ = some a3 ∧ w.cell? ⟨gb, 0, none⟩ = some b0 ∧ w.cell? ⟨gb, 1, none⟩ = some b1 ∧ w.cell? ⟨gb, 2, none⟩ = some b2 ∧ w.cell? ⟨gb, 3, none⟩ = some b3) (h1 : ga ≠ g) (h2 : gb ≠ g) (x y : Value) :
    ((w.setCell ⟨g, 0, none⟩ x).setCell ⟨g, 1, none⟩ y).cell? ⟨ga, 0, none⟩ = some a0 ∧ ((w.setCell ⟨g, 0, none⟩ x).setCell ⟨g, 1, none⟩ y).cell? ⟨ga, 1, none⟩ = some a1 ∧ ((w.setCell ⟨g, 0, none⟩ x).setCell ⟨g, 1, none⟩ y).cell? ⟨ga, 2, none⟩ = some a2 ∧ ((w.setCell ⟨g, 0, none⟩ x).setCell ⟨g, 1, none⟩ y).cell? ⟨ga, 3, none⟩ = some a3 ∧
    ((w.setCell ⟨g, 0, none⟩ x).setCell ⟨g, 1, none⟩ y).cell? ⟨gb, 0, none⟩ = some b0 ∧ ((w.setCell ⟨g, 0, none⟩ x).setCell ⟨g, 1, none⟩ y).cell? ⟨gb, 1, none⟩ = some b1 ∧ ((w.setCell ⟨g, 0, none⟩ x).setCell ⟨g, 1, none⟩ y).cell? ⟨gb, 2, none⟩ = some b2 ∧ ((w.setCell ⟨g, 0, none⟩ x).setCell ⟨g, 1, none⟩ y).cell? ⟨gb, 3, none⟩ = some b3 := by
  obtain ⟨p0, p1, p2, p3, q0, q1, q2, q3⟩ := h
  exact ⟨(cell_setW h1 x y).trans p0, (cell_setW h1 x y).trans p1, (cell_setW h1 x y).trans p2, (cell_setW h1 x y).trans p3, (cell_setW h2 x y).trans q0, (cell_setW h2 x y).trans q1, (cell_setW h2 x y).trans q2, (cell_setW h2 x y).trans q3⟩

theorem pres_end {r1 r2 : Bool × List Nat} {w wS : World} {g1 g2 : Nat} {A A2 B1 B2 : Option Addr} {c c2 m1 d1 m2 d2 : Nat} {n1 n2 : Bool} (h1 : Sl wS A r1.2 c) (h2 : Sl wS A2 r2.2 c2) (q1 : Cw wS g1 n1 B1 m1 d1) (q2 : Cw wS g2 n2 B2 m2 d2)
    (hb : Below w.heap.size w wS) (l1 : w.heap.size ≤ g1) (l2 : w.heap.size ≤ g2) (hne : g2 ≠ g1) :
    PRes r1 r2 w (.returned (.tuple #[.agg #[.bool r1.1, .slice A r1.2.length c], .agg #[.bool r2.1, .slice A2 r2.2.length c2]]))
      ((((wS.setCell ⟨g1, 0, none⟩ (.bool r1.1)).setCell ⟨g1, 1, none⟩ (.slice A r1.2.length c)).setCell ⟨g2, 0, none⟩ (.bool r2.1)).setCell ⟨g2, 1, none⟩ (.slice A2 r2.2.length c2)) := by
  have q3 := q2.setW hne (.bool r1.1) (.slice A r1.2.length c)
  exact ⟨A, c, A2, c2, rfl, (h1.setW q1.1 q1.2 _ _).setW q3.1 q3.2 _ _, (h2.setW q1.1 q1.2 _ _).setW q3.1 q3.2 _ _, below_setW (below_setW hb l1 _ _) l2 _ _⟩

set_option maxRecDepth 100000 in
set_option maxHeartbeats 4000000 in
theorem mul1_ok (n1 n2 n3 n4 : Bool) (A1 A2 A3 A4 : Option Addr) (l1 l2 l3 l4 : List Nat) (c1 c2 c3 c4 : Nat) (x1 y1 x2 y2 : Int) (h1 : VZ n1 l1 x1) (h2 : VZ n2 l2 y1) (h3 : VZ n3 l3 x2) (h4 : VZ n4 l4 y2) (f0 : fitZ (x1 * x2)) (f2 : fitZ (y1 * y2)) (w : World) (hs1 : Sl w A1 l1 c1) (hs2 : Sl w A2 l2 c2) (hs3 : Sl w A3 l3 c3) (hs4 : Sl w A4 l4 c4) :
    Calls Try.prog 60 #[.agg #[.bool n1, .slice A1 l1.length c1, .bool n2, .slice A2 l2.length c2], .agg #[.bool n3, .slice A3 l3.length c3, .bool n4, .slice A4 l4.length c4]] w (PRes (wOf (x1 * x2)) (wOf (y1 * y2)) w) := by
  obtain ⟨ns, ls, es⟩ : ∃ n l, wOf (x1 * x2) = (n, l) := ⟨_, _, rfl⟩
  have vs := vz_mk es.symm f0
  have H0 : Hid (mulS n1 l1 n3 l3 = ((ns, ls), 0)) := by rw [← es]; exact mulS_z h1 h3 f0
  obtain ⟨nt, lt, et⟩ : ∃ n l, wOf (y1 * y2) = (n, l) := ⟨_, _, rfl⟩
  have vt := vz_mk et.symm f2
  have H2 : Hid (mulS n2 l2 n4 l4 = ((nt, lt), 0)) := by rw [← et]; exact mulS_z h2 h4 f2
  rw [es, et]
  have S1 := Lib.hid hs1
  have S2 := Lib.hid hs2
  have S3 := Lib.hid hs3
  have S4 := Lib.hid hs4
  have B : Hid (Below w.heap.size w w) := Below.refl _ _
  clear hs1 hs2 hs3 hs4 h1 h2 h3 h4 f0 es vs f2 et vt
  go_enter Try.func60, Try.ntmps60
  go_wp2_with fail
  have KaX : Hid (Cf (((((w.alloc (.cells #[.bool n1, .slice A1 l1.length c1, .bool n2, .slice A2 l2.length c2] 59)).alloc (.cells #[.bool n3, .slice A3 l3.length c3, .bool n4, .slice A4 l4.length c4] 59)).alloc (.cells #[.bool false, .slice none 0 0] 57)).alloc (.cells #[.bool false, .slice none 0 0] 57)).drew) w.heap.size n1 A1 l1.length c1 n2 A2 l2.length c2) := Cf.drew (Cf.keep (Cf.keep (Cf.keep (Cf.fresh (by simp) _ _ _ _ _ _ _ _ _) (blw1 _ _)) (blw1 _ _)) (blw1 _ _))
  have KbX : Hid (Cf (((((w.alloc (.cells #[.bool n1, .slice A1 l1.length c1, .bool n2, .slice A2 l2.length c2] 59)).alloc (.cells #[.bool n3, .slice A3 l3.length c3, .bool n4, .slice A4 l4.length c4] 59)).alloc (.cells #[.bool false, .slice none 0 0] 57)).alloc (.cells #[.bool false, .slice none 0 0] 57)).drew) (w.heap.size + 1) n3 A3 l3.length c3 n4 A4 l4.length c4) := Cf.drew (Cf.keep (Cf.keep (Cf.fresh (by simp) _ _ _ _ _ _ _ _ _) (blw1 _ _)) (blw1 _ _))
  have KrX : Hid (Cw (((((w.alloc (.cells #[.bool n1, .slice A1 l1.length c1, .bool n2, .slice A2 l2.length c2] 59)).alloc (.cells #[.bool n3, .slice A3 l3.length c3, .bool n4, .slice A4 l4.length c4] 59)).alloc (.cells #[.bool false, .slice none 0 0] 57)).alloc (.cells #[.bool false, .slice none 0 0] 57)).drew) (w.heap.size + 1 + 1) false none 0 0) := Cw.drew (Cw.keep (Cw.fresh (by simp) _ _ _ _ _) (blw1 _ _))
  have KuX : Hid (Cw (((((w.alloc (.cells #[.bool n1, .slice A1 l1.length c1, .bool n2, .slice A2 l2.length c2] 59)).alloc (.cells #[.bool n3, .slice A3 l3.length c3, .bool n4, .slice A4 l4.length c4] 59)).alloc (.cells #[.bool false, .slice none 0 0] 57)).alloc (.cells #[.bool false, .slice none 0 0] 57)).drew) (w.heap.size + 1 + 1 + 1) false none 0 0) := Cw.drew (Cw.fresh (by simp) _ _ _ _ _)
  have FrX : Hid (Fw (((((w.alloc (.cells #[.bool n1, .slice A1 l1.length c1, .bool n2, .slice A2 l2.length c2] 59)).alloc (.cells #[.bool n3, .slice A3 l3.length c3, .bool n4, .slice A4 l4.length c4] 59)).alloc (.cells #[.bool false, .slice none 0 0] 57)).alloc (.cells #[.bool false, .slice none 0 0] 57)).drew) (w.heap.size + 1 + 1)) := Fw.drew (Fw.keep (Fw.fresh (by simp) _ _) (Cw.fresh (by simp) _ _ _ _ _) (blw1 _ _))
  have FuX : Hid (Fw (((((w.alloc (.cells #[.bool n1, .slice A1 l1.length c1, .bool n2, .slice A2 l2.length c2] 59)).alloc (.cells #[.bool n3, .slice A3 l3.length c3, .bool n4, .slice A4 l4.length c4] 59)).alloc (.cells #[.bool false, .slice none 0 0] 57)).alloc (.cells #[.bool false, .slice none 0 0] 57)).drew) (w.heap.size + 1 + 1 + 1)) := Fw.drew (Fw.fresh (by simp) _ _)
  have S1X : Hid (Sl (((((w.alloc (.cells #[.bool n1, .slice A1 l1.length c1, .bool n2, .slice A2 l2.length c2] 59)).alloc (.cells #[.bool n3, .slice A3 l3.length c3, .bool n4, .slice A4 l4.length c4] 59)).alloc (.cells #[.bool false, .slice none 0 0] 57)).alloc (.cells #[.bool false, .slice none 0 0] 57)).drew) A1 l1 c1) := Sl.drew ((((S1.out.alloc _).alloc _).alloc _).alloc _)
  have S2X : Hid (Sl (((((w.alloc (.cells #[.bool n1, .slice A1 l1.length c1, .bool n2, .slice A2 l2.length c2] 59)).alloc (.cells #[.bool n3, .slice A3 l3.length c3, .bool n4, .slice A4 l4.length c4] 59)).alloc (.cells #[.bool false, .slice none 0 0] 57)).alloc (.cells #[.bool false, .slice none 0 0] 57)).drew) A2 l2 c2) := Sl.drew ((((S2.out.alloc _).alloc _).alloc _).alloc _)
  have S3X : Hid (Sl (((((w.alloc (.cells #[.bool n1, .slice A1 l1.length c1, .bool n2, .slice A2 l2.length c2] 59)).alloc (.cells #[.bool n3, .slice A3 l3.length c3, .bool n4, .slice A4 l4.length c4] 59)).alloc (.cells #[.bool false, .slice none 0 0] 57)).alloc (.cells #[.bool false, .slice none 0 0] 57)).drew) A3 l3 c3) := Sl.drew ((((S3.out.alloc _).alloc _).alloc _).alloc _)
  have S4X : Hid (Sl (((((w.alloc (.cells #[.bool n1, .slice A1 l1.length c1, .bool n2, .slice A2 l2.length c2] 59)).alloc (.cells #[.bool n3, .slice A3 l3.length c3, .bool n4, .slice A4 l4.length c4] 59)).alloc (.cells #[.bool false, .slice none 0 0] 57)).alloc (.cells #[.bool false, .slice none 0 0] 57)).drew) A4 l4 c4) := Sl.drew ((((S4.out.alloc _).alloc _).alloc _).alloc _)
  have BX : Hid (Below w.heap.size w (((((w.alloc (.cells #[.bool n1, .slice A1 l1.length c1, .bool n2, .slice A2 l2.length c2] 59)).alloc (.cells #[.bool n3, .slice A3 l3.length c3, .bool n4, .slice A4 l4.length c4] 59)).alloc (.cells #[.bool false, .slice none 0 0] 57)).alloc (.cells #[.bool false, .slice none 0 0] 57)).drew)) := Below.drew (below_mono (below_mono (below_mono (below_mono B.out (blw1 _ _)) (blw1 _ _)) (blw1 _ _)) (blw1 _ _))
  clear S1 S2 S3 S4 B
  have J0 : Hid ((((((w.alloc (.cells #[.bool n1, .slice A1 l1.length c1, .bool n2, .slice A2 l2.length c2] 59)).alloc (.cells #[.bool n3, .slice A3 l3.length c3, .bool n4, .slice A4 l4.length c4] 59)).alloc (.cells #[.bool false, .slice none 0 0] 57)).alloc (.cells #[.bool false, .slice none 0 0] 57)).drew).cell? ⟨w.heap.size, 0, none⟩ = some (.bool n1) ∧ (((((w.alloc (.cells #[.bool n1, .slice A1 l1.length c1, .bool n2, .slice A2 l2.length c2] 59)).alloc (.cells #[.bool n3, .slice A3 l3.length c3, .bool n4, .slice A4 l4.length c4] 59)).alloc (.cells #[.bool false, .slice none 0 0] 57)).alloc (.cells #[.bool false, .slice none 0 0] 57)).drew).cell? ⟨w.heap.size, 1, none⟩ = some (.slice A1 l1.length c1) ∧ (((((w.alloc (.cells #[.bool n1, .slice A1 l1.length c1, .bool n2, .slice A2 l2.length c2] 59)).alloc (.cells #[.bool n3, .slice A3 l3.length c3, .bool n4, .slice A4 l4.length c4] 59)).alloc (.cells #[.bool false, .slice none 0 0] 57)).alloc (.cells #[.bool false, .slice none 0 0] 57)).drew).cell? ⟨w.heap.size, 2, none⟩ = some (.bool n2) ∧ (((((w.alloc (.cells #[.bool n1, .slice A1 l1.length c1, .bool n2, .slice A2 l2.length c2] 59)).alloc (.cells #[.bool n3, .slice A3 l3.length c3, .bool n4, .slice A4 l4.length c4] 59)).alloc (.cells #[.bool false, .slice none 0 0] 57)).alloc (.cells #[.bool false, .slice none 0 0] 57)).drew).cell? ⟨w.heap.size, 3, none⟩ = some (.slice A2 l2.length c2) ∧ (((((w.alloc (.cells #[.bool n1, .slice A1 l1.length c1, .bool n2, .slice A2 l2.length c2] 59)).alloc (.cells #[.bool n3, .slice A3 l3.length c3, .bool n4, .slice A4 l4.length c4] 59)).alloc (.cells #[.bool false, .slice none 0 0] 57)).alloc (.cells #[.bool false, .slice none 0 0] 57)).drew).cell? ⟨w.heap.size + 1, 0, none⟩ = some (.bool n3) ∧ (((((w.alloc (.cells #[.bool n1, .slice A1 l1.length c1, .bool n2, .slice A2 l2.length c2] 59)).alloc (.cells #[.bool n3, .slice A3 l3.length c3, .bool n4, .slice A4 l4.length c4] 59)).alloc (.cells #[.bool false, .slice none 0 0] 57)).alloc (.cells #[.bool false, .slice none 0 0] 57)).drew).cell? ⟨w.heap.size + 1, 1, none⟩ = some (.slice A3 l3.length c3) ∧ (((((w.alloc (.cells #[.bool n1, .slice A1 l1.length c1, .bool n2, .slice A2 l2.length c2] 59)).alloc (.cells #[.bool n3, .slice A3 l3.length c3, .bool n4, .slice A4 l4.length c4] 59)).alloc (.cells #[.bool false, .slice none 0 0] 57)).alloc (.cells #[.bool false, .slice none 0 0] 57)).drew).cell? ⟨w.heap.size + 1, 2, none⟩ = some (.bool n4) ∧ (((((w.alloc (.cells #[.bool n1, .slice A1 l1.length c1, .bool n2, .slice A2 l2.length c2] 59)).alloc (.cells #[.bool n3, .slice A3 l3.length c3, .bool n4, .slice A4 l4.length c4] 59)).alloc (.cells #[.bool false, .slice none 0 0] 57)).alloc (.cells #[.bool false, .slice none 0 0] 57)).drew).cell? ⟨w.heap.size + 1, 3, none⟩ = some (.slice A4 l4.length c4)) := ⟨KaX.out.1, KaX.out.2.1, KaX.out.2.2.1, KaX.out.2.2.2, KbX.out.1, KbX.out.2.1, KbX.out.2.2.1, KbX.out.2.2.2⟩
  go_region_held3 (fun w' => w'.cell? ⟨w.heap.size, 0, none⟩ = some (.bool n1) ∧ w'.cell? ⟨w.heap.size, 1, none⟩ = some (.slice A1 l1.length c1) ∧ w'.cell? ⟨w.heap.size, 2, none⟩ = some (.bool n2) ∧ w'.cell? ⟨w.heap.size, 3, none⟩ = some (.slice A2 l2.length c2) ∧ w'.cell? ⟨w.heap.size + 1, 0, none⟩ = some (.bool n3) ∧ w'.cell? ⟨w.heap.size + 1, 1, none⟩ = some (.slice A3 l3.length c3) ∧ w'.cell? ⟨w.heap.size + 1, 2, none⟩ = some (.bool n4) ∧ w'.cell? ⟨w.heap.size + 1, 3, none⟩ = some (.slice A4 l4.length c4))
    (first | with_reducible exact J4.out | with_reducible exact set8 J4.out (by omega) (by omega) _ _ | with_reducible exact set8 (set8 J4.out (by omega) (by omega) _ _) (by omega) (by omega) _ _ | with_reducible exact J3.out | with_reducible exact J2.out | with_reducible exact J1.out | with_reducible exact J0.out)
    (first
      | (go_at_call 43; (with_reducible refine (wmul_any n1 n3 _ _ l1 l3 _ _ _ S1X.out S3X.out).mono ?_); rw [H0.out]; rintro e v1 ⟨As, cs, rfl, hss, hb⟩; (try dsimp only at hss); (try dsimp only); have Kav1 : Hid (Cf v1 w.heap.size n1 A1 l1.length c1 n2 A2 l2.length c2) := Cf.keep KaX.out hb; have Kbv1 : Hid (Cf v1 (w.heap.size + 1) n3 A3 l3.length c3 n4 A4 l4.length c4) := Cf.keep KbX.out hb; have Frv1 : Hid (Fw v1 (w.heap.size + 1 + 1)) := Fw.keep FrX.out KrX.out hb; have Fuv1 : Hid (Fw v1 (w.heap.size + 1 + 1 + 1)) := Fw.keep FuX.out KuX.out hb; have Krv1 : Hid (Cw v1 (w.heap.size + 1 + 1) false none 0 0) := Cw.keep KrX.out hb; have Kuv1 : Hid (Cw v1 (w.heap.size + 1 + 1 + 1) false none 0 0) := Cw.keep KuX.out hb; have S1v1 : Hid (Sl v1 A1 l1 c1) := Sl.below S1X.out hb; have S2v1 : Hid (Sl v1 A2 l2 c2) := Sl.below S2X.out hb; have S3v1 : Hid (Sl v1 A3 l3 c3) := Sl.below S3X.out hb; have S4v1 : Hid (Sl v1 A4 l4 c4) := Sl.below S4X.out hb; have Bv1 : Hid (Below w.heap.size w v1) := below_mono BX.out hb; have J1 : Hid (v1.cell? ⟨w.heap.size, 0, none⟩ = some (.bool n1) ∧ v1.cell? ⟨w.heap.size, 1, none⟩ = some (.slice A1 l1.length c1) ∧ v1.cell? ⟨w.heap.size, 2, none⟩ = some (.bool n2) ∧ v1.cell? ⟨w.heap.size, 3, none⟩ = some (.slice A2 l2.length c2) ∧ v1.cell? ⟨w.heap.size + 1, 0, none⟩ = some (.bool n3) ∧ v1.cell? ⟨w.heap.size + 1, 1, none⟩ = some (.slice A3 l3.length c3) ∧ v1.cell? ⟨w.heap.size + 1, 2, none⟩ = some (.bool n4) ∧ v1.cell? ⟨w.heap.size + 1, 3, none⟩ = some (.slice A4 l4.length c4)) := ⟨Kav1.out.1, Kav1.out.2.1, Kav1.out.2.2.1, Kav1.out.2.2.2, Kbv1.out.1, Kbv1.out.2.1, Kbv1.out.2.2.1, Kbv1.out.2.2.2⟩; have Ssv1 : Hid (Sl v1 As ls cs) := hss; clear hss; clear hb)
      | (go_at_call 61; (with_reducible refine (must_ok ns As ls.length cs _).mono ?_); rintro e v2 ⟨rfl, hb⟩; have Kav2 : Hid (Cf v2 w.heap.size n1 A1 l1.length c1 n2 A2 l2.length c2) := Cf.keep Kav1.out hb; have Kbv2 : Hid (Cf v2 (w.heap.size + 1) n3 A3 l3.length c3 n4 A4 l4.length c4) := Cf.keep Kbv1.out hb; have Frv2 : Hid (Fw v2 (w.heap.size + 1 + 1)) := Fw.keep Frv1.out Krv1.out hb; have Fuv2 : Hid (Fw v2 (w.heap.size + 1 + 1 + 1)) := Fw.keep Fuv1.out Kuv1.out hb; have Krv2 : Hid (Cw v2 (w.heap.size + 1 + 1) false none 0 0) := Cw.keep Krv1.out hb; have Kuv2 : Hid (Cw v2 (w.heap.size + 1 + 1 + 1) false none 0 0) := Cw.keep Kuv1.out hb; have S1v2 : Hid (Sl v2 A1 l1 c1) := Sl.below S1v1.out hb; have S2v2 : Hid (Sl v2 A2 l2 c2) := Sl.below S2v1.out hb; have S3v2 : Hid (Sl v2 A3 l3 c3) := Sl.below S3v1.out hb; have S4v2 : Hid (Sl v2 A4 l4 c4) := Sl.below S4v1.out hb; have Ssv2 : Hid (Sl v2 As ls cs) := Sl.below Ssv1.out hb; have Bv2 : Hid (Below w.heap.size w v2) := below_mono Bv1.out hb; have J2 : Hid (v2.cell? ⟨w.heap.size, 0, none⟩ = some (.bool n1) ∧ v2.cell? ⟨w.heap.size, 1, none⟩ = some (.slice A1 l1.length c1) ∧ v2.cell? ⟨w.heap.size, 2, none⟩ = some (.bool n2) ∧ v2.cell? ⟨w.heap.size, 3, none⟩ = some (.slice A2 l2.length c2) ∧ v2.cell? ⟨w.heap.size + 1, 0, none⟩ = some (.bool n3) ∧ v2.cell? ⟨w.heap.size + 1, 1, none⟩ = some (.slice A3 l3.length c3) ∧ v2.cell? ⟨w.heap.size + 1, 2, none⟩ = some (.bool n4) ∧ v2.cell? ⟨w.heap.size + 1, 3, none⟩ = some (.slice A4 l4.length c4)) := ⟨Kav2.out.1, Kav2.out.2.1, Kav2.out.2.2.1, Kav2.out.2.2.2, Kbv2.out.1, Kbv2.out.2.1, Kbv2.out.2.2.1, Kbv2.out.2.2.2⟩; clear hb)
      | (go_at_call 43; (with_reducible refine (wmul_any n2 n4 _ _ l2 l4 _ _ _ S2v2.out S4v2.out).mono ?_); rw [H2.out]; rintro e v3 ⟨At, ct, rfl, hst, hb⟩; (try dsimp only at hst); (try dsimp only); have Kav3 : Hid (Cf v3 w.heap.size n1 A1 l1.length c1 n2 A2 l2.length c2) := Cf.keep Kav2.out hb; have Kbv3 : Hid (Cf v3 (w.heap.size + 1) n3 A3 l3.length c3 n4 A4 l4.length c4) := Cf.keep Kbv2.out hb; have Frv3 : Hid (Fw v3 (w.heap.size + 1 + 1)) := Fw.keep Frv2.out Krv2.out hb; have Fuv3 : Hid (Fw v3 (w.heap.size + 1 + 1 + 1)) := Fw.keep Fuv2.out Kuv2.out hb; have Krv3 : Hid (Cw v3 (w.heap.size + 1 + 1) false none 0 0) := Cw.keep Krv2.out hb; have Kuv3 : Hid (Cw v3 (w.heap.size + 1 + 1 + 1) false none 0 0) := Cw.keep Kuv2.out hb; have S1v3 : Hid (Sl v3 A1 l1 c1) := Sl.below S1v2.out hb; have S2v3 : Hid (Sl v3 A2 l2 c2) := Sl.below S2v2.out hb; have S3v3 : Hid (Sl v3 A3 l3 c3) := Sl.below S3v2.out hb; have S4v3 : Hid (Sl v3 A4 l4 c4) := Sl.below S4v2.out hb; have Ssv3 : Hid (Sl v3 As ls cs) := Sl.below Ssv2.out hb; have Bv3 : Hid (Below w.heap.size w v3) := below_mono Bv2.out hb; have J3 : Hid (v3.cell? ⟨w.heap.size, 0, none⟩ = some (.bool n1) ∧ v3.cell? ⟨w.heap.size, 1, none⟩ = some (.slice A1 l1.length c1) ∧ v3.cell? ⟨w.heap.size, 2, none⟩ = some (.bool n2) ∧ v3.cell? ⟨w.heap.size, 3, none⟩ = some (.slice A2 l2.length c2) ∧ v3.cell? ⟨w.heap.size + 1, 0, none⟩ = some (.bool n3) ∧ v3.cell? ⟨w.heap.size + 1, 1, none⟩ = some (.slice A3 l3.length c3) ∧ v3.cell? ⟨w.heap.size + 1, 2, none⟩ = some (.bool n4) ∧ v3.cell? ⟨w.heap.size + 1, 3, none⟩ = some (.slice A4 l4.length c4)) := ⟨Kav3.out.1, Kav3.out.2.1, Kav3.out.2.2.1, Kav3.out.2.2.2, Kbv3.out.1, Kbv3.out.2.1, Kbv3.out.2.2.1, Kbv3.out.2.2.2⟩; have Stv3 : Hid (Sl v3 At lt ct) := hst; clear hst; clear hb)
      | (go_at_call 61; (with_reducible refine (must_ok nt At lt.length ct _).mono ?_); rintro e v4 ⟨rfl, hb⟩; have Kav4 : Hid (Cf v4 w.heap.size n1 A1 l1.length c1 n2 A2 l2.length c2) := Cf.keep Kav3.out hb; have Kbv4 : Hid (Cf v4 (w.heap.size + 1) n3 A3 l3.length c3 n4 A4 l4.length c4) := Cf.keep Kbv3.out hb; have Frv4 : Hid (Fw v4 (w.heap.size + 1 + 1)) := Fw.keep Frv3.out Krv3.out hb; have Fuv4 : Hid (Fw v4 (w.heap.size + 1 + 1 + 1)) := Fw.keep Fuv3.out Kuv3.out hb; have Krv4 : Hid (Cw v4 (w.heap.size + 1 + 1) false none 0 0) := Cw.keep Krv3.out hb; have Kuv4 : Hid (Cw v4 (w.heap.size + 1 + 1 + 1) false none 0 0) := Cw.keep Kuv3.out hb; have S1v4 : Hid (Sl v4 A1 l1 c1) := Sl.below S1v3.out hb; have S2v4 : Hid (Sl v4 A2 l2 c2) := Sl.below S2v3.out hb; have S3v4 : Hid (Sl v4 A3 l3 c3) := Sl.below S3v3.out hb; have S4v4 : Hid (Sl v4 A4 l4 c4) := Sl.below S4v3.out hb; have Ssv4 : Hid (Sl v4 As ls cs) := Sl.below Ssv3.out hb; have Stv4 : Hid (Sl v4 At lt ct) := Sl.below Stv3.out hb; have Bv4 : Hid (Below w.heap.size w v4) := below_mono Bv3.out hb; have J4 : Hid (v4.cell? ⟨w.heap.size, 0, none⟩ = some (.bool n1) ∧ v4.cell? ⟨w.heap.size, 1, none⟩ = some (.slice A1 l1.length c1) ∧ v4.cell? ⟨w.heap.size, 2, none⟩ = some (.bool n2) ∧ v4.cell? ⟨w.heap.size, 3, none⟩ = some (.slice A2 l2.length c2) ∧ v4.cell? ⟨w.heap.size + 1, 0, none⟩ = some (.bool n3) ∧ v4.cell? ⟨w.heap.size + 1, 1, none⟩ = some (.slice A3 l3.length c3) ∧ v4.cell? ⟨w.heap.size + 1, 2, none⟩ = some (.bool n4) ∧ v4.cell? ⟨w.heap.size + 1, 3, none⟩ = some (.slice A4 l4.length c4)) := ⟨Kav4.out.1, Kav4.out.2.1, Kav4.out.2.2.1, Kav4.out.2.2.2, Kbv4.out.1, Kbv4.out.2.1, Kbv4.out.2.2.1, Kbv4.out.2.2.2⟩; obtain ⟨r0, r1⟩ := Krv4.out; obtain ⟨u0, u1⟩ := Kuv4.out; obtain ⟨g0, g1⟩ := Frv4.out; obtain ⟨g2, g3⟩ := Fuv4.out; clear hb))
  go_wp2
  exact bodyPost_ret (v := .tuple #[.agg #[.bool ns, .slice As ls.length cs], .agg #[.bool nt, .slice At lt.length ct]]) (by simp [results, Try.results60, go_sem, r0, r1, u0, u1]) rfl (pres_end Ssv4.out Stv4.out Krv4.out Kuv4.out Bv4.out (by omega) (by omega) (by omega))

end Go.Proofs.Ytghallnooijfhaa
/- Walks: the calculations of frac.Add, Sub, Mul, Div. -/
namespace Go.Proofs.Ytghallnooijfhaa
open Go.RowKit
attribute [local go_sem ↓] Go.wp_at_zero Go.wp_at_succ
set_option maxRecDepth 100000 in
set_option maxHeartbeats 4000000 in
theorem add1_ok (n1 n2 n3 n4 : Bool) (A1 A2 A3 A4 : Option Addr) (l1 l2 l3 l4 : List Nat) (c1 c2 c3 c4 : Nat) (x1 y1 x2 y2 : Int) (h1 : VZ n1 l1 x1) (h2 : VZ n2 l2 y1) (h3 : VZ n3 l3 x2) (h4 : VZ n4 l4 y2) (f0 : fitZ (x1 * y2)) (f1 : fitZ (x2 * y1)) (f2 : fitZ (x1 * y2 + x2 * y1)) (f4 : fitZ (y1 * y2)) (w : World) (hs1 : Sl w A1 l1 c1) (hs2 : Sl w A2 l2 c2) (hs3 : Sl w A3 l3 c3) (hs4 : Sl w A4 l4 c4) :
    Calls Try.prog 79 #[.agg #[.bool n1, .slice A1 l1.length c1, .bool n2, .slice A2 l2.length c2], .agg #[.bool n3, .slice A3 l3.length c3, .bool n4, .slice A4 l4.length c4]] w (PRes (wOf (x1 * y2 + x2 * y1)) (wOf (y1 * y2)) w) := by
  obtain ⟨np, lp, ep⟩ : ∃ n l, wOf (x1 * y2) = (n, l) := ⟨_, _, rfl⟩
  have vp := vz_mk ep.symm f0
  have H0 : Hid (∀ W, Sl W A1 l1 c1 → Sl W A2 l2 c2 → Sl W A3 l3 c3 → Sl W A4 l4 c4 → Calls Try.prog 80 #[.agg #[.bool n1, .slice A1 l1.length c1, .bool n2, .slice A2 l2.length c2], .agg #[.bool n3, .slice A3 l3.length c3, .bool n4, .slice A4 l4.length c4]] W (WRes1 (np, lp) W)) := fun W a b c d => by rw [← ep]; exact cross_ok n1 n2 n3 n4 A1 A2 A3 A4 l1 l2 l3 l4 c1 c2 c3 c4 x1 y2 h1 h4 f0 W a b c d
  obtain ⟨nq, lq, eq⟩ : ∃ n l, wOf (x2 * y1) = (n, l) := ⟨_, _, rfl⟩
  have vq := vz_mk eq.symm f1
  have H1 : Hid (∀ W, Sl W A1 l1 c1 → Sl W A2 l2 c2 → Sl W A3 l3 c3 → Sl W A4 l4 c4 → Calls Try.prog 80 #[.agg #[.bool n3, .slice A3 l3.length c3, .bool n4, .slice A4 l4.length c4], .agg #[.bool n1, .slice A1 l1.length c1, .bool n2, .slice A2 l2.length c2]] W (WRes1 (nq, lq) W)) := fun W a b c d => by rw [← eq]; exact cross_ok n3 n4 n1 n2 A3 A4 A1 A2 l3 l4 l1 l2 c3 c4 c1 c2 x2 y1 h3 h2 f1 W c d a b
  obtain ⟨ns, ls, es⟩ : ∃ n l, wOf (x1 * y2 + x2 * y1) = (n, l) := ⟨_, _, rfl⟩
  have vs := vz_mk es.symm f2
  have H2 : Hid (addS np lp nq lq = ((ns, ls), 0)) := by rw [← es]; exact addS_z vp vq f2
  obtain ⟨nt, lt, et⟩ : ∃ n l, wOf (y1 * y2) = (n, l) := ⟨_, _, rfl⟩
  have vt := vz_mk et.symm f4
  have H4 : Hid (mulS n2 l2 n4 l4 = ((nt, lt), 0)) := by rw [← et]; exact mulS_z h2 h4 f4
  rw [es, et]
  have S1 := Lib.hid hs1
  have S2 := Lib.hid hs2
  have S3 := Lib.hid hs3
  have S4 := Lib.hid hs4
  have B : Hid (Below w.heap.size w w) := Below.refl _ _
  clear hs1 hs2 hs3 hs4 h1 h2 h3 h4 f0 ep vp f1 eq vq f2 es vs f4 et vt
  go_enter Try.func79, Try.ntmps79
  go_wp2_with fail
  have KaX : Hid (Cf (((((w.alloc (.cells #[.bool n1, .slice A1 l1.length c1, .bool n2, .slice A2 l2.length c2] 59)).alloc (.cells #[.bool n3, .slice A3 l3.length c3, .bool n4, .slice A4 l4.length c4] 59)).alloc (.cells #[.bool false, .slice none 0 0] 57)).alloc (.cells #[.bool false, .slice none 0 0] 57)).drew) w.heap.size n1 A1 l1.length c1 n2 A2 l2.length c2) := Cf.drew (Cf.keep (Cf.keep (Cf.keep (Cf.fresh (by simp) _ _ _ _ _ _ _ _ _) (blw1 _ _)) (blw1 _ _)) (blw1 _ _))
  have KbX : Hid (Cf (((((w.alloc (.cells #[.bool n1, .slice A1 l1.length c1, .bool n2, .slice A2 l2.length c2] 59)).alloc (.cells #[.bool n3, .slice A3 l3.length c3, .bool n4, .slice A4 l4.length c4] 59)).alloc (.cells #[.bool false, .slice none 0 0] 57)).alloc (.cells #[.bool false, .slice none 0 0] 57)).drew) (w.heap.size + 1) n3 A3 l3.length c3 n4 A4 l4.length c4) := Cf.drew (Cf.keep (Cf.keep (Cf.fresh (by simp) _ _ _ _ _ _ _ _ _) (blw1 _ _)) (blw1 _ _))
  have KrX : Hid (Cw (((((w.alloc (.cells #[.bool n1, .slice A1 l1.length c1, .bool n2, .slice A2 l2.length c2] 59)).alloc (.cells #[.bool n3, .slice A3 l3.length c3, .bool n4, .slice A4 l4.length c4] 59)).alloc (.cells #[.bool false, .slice none 0 0] 57)).alloc (.cells #[.bool false, .slice none 0 0] 57)).drew) (w.heap.size + 1 + 1) false none 0 0) := Cw.drew (Cw.keep (Cw.fresh (by simp) _ _ _ _ _) (blw1 _ _))
  have KuX : Hid (Cw (((((w.alloc (.cells #[.bool n1, .slice A1 l1.length c1, .bool n2, .slice A2 l2.length c2] 59)).alloc (.cells #[.bool n3, .slice A3 l3.length c3, .bool n4, .slice A4 l4.length c4] 59)).alloc (.cells #[.bool false, .slice none 0 0] 57)).alloc (.cells #[.bool false, .slice none 0 0] 57)).drew) (w.heap.size + 1 + 1 + 1) false none 0 0) := Cw.drew (Cw.fresh (by simp) _ _ _ _ _)
  have FrX : Hid (Fw (((((w.alloc (.cells #[.bool n1, .slice A1 l1.length c1, .bool n2, .slice A2 l2.length c2] 59)).alloc (.cells #[.bool n3, .slice A3 l3.length c3, .bool n4, .slice A4 l4.length c4] 59)).alloc (.cells #[.bool false, .slice none 0 0] 57)).alloc (.cells #[.bool false, .slice none 0 0] 57)).drew) (w.heap.size + 1 + 1)) := Fw.drew (Fw.keep (Fw.fresh (by simp) _ _) (Cw.fresh (by simp) _ _ _ _ _) (blw1 _ _))
  have FuX : Hid (Fw (((((w.alloc (.cells #[.bool n1, .slice A1 l1.length c1, .bool n2, .slice A2 l2.length c2] 59)).alloc (.cells #[.bool n3, .slice A3 l3.length c3, .bool n4, .slice A4 l4.length c4] 59)).alloc (.cells #[.bool false, .slice none 0 0] 57)).alloc (.cells #[.bool false, .slice none 0 0] 57)).drew) (w.heap.size + 1 + 1 + 1)) := Fw.drew (Fw.fresh (by simp) _ _)
  have S1X : Hid (Sl (((((w.alloc (.cells #[.bool n1, .slice A1 l1.length c1, .bool n2, .slice A2 l2.length c2] 59)).alloc (.cells #[.bool n3, .slice A3 l3.length c3, .bool n4, .slice A4 l4.length c4] 59)).alloc (.cells #[.bool false, .slice none 0 0] 57)).alloc (.cells #[.bool false, .slice none 0 0] 57)).drew) A1 l1 c1) := Sl.drew ((((S1.out.alloc _).alloc _).alloc _).alloc _)
  have S2X : Hid (Sl (((((w.alloc (.cells #[.bool n1, .slice A1 l1.length c1, .bool n2, .slice A2 l2.length c2] 59)).alloc (.cells #[.bool n3, .slice A3 l3.length c3, .bool n4, .slice A4 l4.length c4] 59)).alloc (.cells #[.bool false, .slice none 0 0] 57)).alloc (.cells #[.bool false, .slice none 0 0] 57)).drew) A2 l2 c2) := Sl.drew ((((S2.out.alloc _).alloc _).alloc _).alloc _)
  have S3X : Hid (Sl (((((w.alloc (.cells #[.bool n1, .slice A1 l1.length c1, .bool n2, .slice A2 l2.length c2] 59)).alloc (.cells #[.bool n3, .slice A3 l3.length c3, .bool n4, .slice A4 l4.length c4] 59)).alloc (.cells #[.bool false, .slice none 0 0] 57)).alloc (.cells #[.bool false, .slice none 0 0] 57)).drew) A3 l3 c3) := Sl.drew ((((S3.out.alloc _).alloc _).alloc _).alloc _)
  have S4X : Hid (Sl (((((w.alloc (.cells #[.bool n1, .slice A1 l1.length c1, .bool n2, .slice A2 l2.length c2] 59)).alloc (.cells #[.bool n3, .slice A3 l3.length c3, .bool n4, .slice A4 l4.length c4] 59)).alloc (.cells #[.bool false, .slice none 0 0] 57)).alloc (.cells #[.bool false, .slice none 0 0] 57)).drew) A4 l4 c4) := Sl.drew ((((S4.out.alloc _).alloc _).alloc _).alloc _)
  have BX : Hid (Below w.heap.size w (((((w.alloc (.cells #[.bool n1, .slice A1 l1.length c1, .bool n2, .slice A2 l2.length c2] 59)).alloc (.cells #[.bool n3, .slice A3 l3.length c3, .bool n4, .slice A4 l4.length c4] 59)).alloc (.cells #[.bool false, .slice none 0 0] 57)).alloc (.cells #[.bool false, .slice none 0 0] 57)).drew)) := Below.drew (below_mono (below_mono (below_mono (below_mono B.out (blw1 _ _)) (blw1 _ _)) (blw1 _ _)) (blw1 _ _))
  clear S1 S2 S3 S4 B
  have J0 : Hid ((((((w.alloc (.cells #[.bool n1, .slice A1 l1.length c1, .bool n2, .slice A2 l2.length c2] 59)).alloc (.cells #[.bool n3, .slice A3 l3.length c3, .bool n4, .slice A4 l4.length c4] 59)).alloc (.cells #[.bool false, .slice none 0 0] 57)).alloc (.cells #[.bool false, .slice none 0 0] 57)).drew).cell? ⟨w.heap.size, 0, none⟩ = some (.bool n1) ∧ (((((w.alloc (.cells #[.bool n1, .slice A1 l1.length c1, .bool n2, .slice A2 l2.length c2] 59)).alloc (.cells #[.bool n3, .slice A3 l3.length c3, .bool n4, .slice A4 l4.length c4] 59)).alloc (.cells #[.bool false, .slice none 0 0] 57)).alloc (.cells #[.bool false, .slice none 0 0] 57)).drew).cell? ⟨w.heap.size, 1, none⟩ = some (.slice A1 l1.length c1) ∧ (((((w.alloc (.cells #[.bool n1, .slice A1 l1.length c1, .bool n2, .slice A2 l2.length c2] 59)).alloc (.cells #[.bool n3, .slice A3 l3.length c3, .bool n4, .slice A4 l4.length c4] 59)).alloc (.cells #[.bool false, .slice none 0 0] 57)).alloc (.cells #[.bool false, .slice none 0 0] 57)).drew).cell? ⟨w.heap.size, 2, none⟩ = some (.bool n2) ∧ (((((w.alloc (.cells #[.bool n1, .slice A1 l1.length c1, .bool n2, .slice A2 l2.length c2] 59)).alloc (.cells #[.bool n3, .slice A3 l3.length c3, .bool n4, .slice A4 l4.length c4] 59)).alloc (.cells #[.bool false, .slice none 0 0] 57)).alloc (.cells #[.bool false, .slice none 0 0] 57)).drew).cell? ⟨w.heap.size, 3, none⟩ = some (.slice A2 l2.length c2) ∧ (((((w.alloc (.cells #[.bool n1, .slice A1 l1.length c1, .bool n2, .slice A2 l2.length c2] 59)).alloc (.cells #[.bool n3, .slice A3 l3.length c3, .bool n4, .slice A4 l4.length c4] 59)).alloc (.cells #[.bool false, .slice none 0 0] 57)).alloc (.cells #[.bool false, .slice none 0 0] 57)).drew).cell? ⟨w.heap.size + 1, 0, none⟩ = some (.bool n3) ∧ (((((w.alloc (.cells #[.bool n1, .slice A1 l1.length c1, .bool n2, .slice A2 l2.length c2] 59)).alloc (.cells #[.bool n3, .slice A3 l3.length c3, .bool n4, .slice A4 l4.length c4] 59)).alloc (.cells #[.bool false, .slice none 0 0] 57)).alloc (.cells #[.bool false, .slice none 0 0] 57)).drew).cell? ⟨w.heap.size + 1, 1, none⟩ = some (.slice A3 l3.length c3) ∧ (((((w.alloc (.cells #[.bool n1, .slice A1 l1.length c1, .bool n2, .slice A2 l2.length c2] 59)).alloc (.cells #[.bool n3, .slice A3 l3.length c3, .bool n4, .slice A4 l4.length c4] 59)).alloc (.cells #[.bool false, .slice none 0 0] 57)).alloc (.cells #[.bool false, .slice none 0 0] 57)).drew).cell? ⟨w.heap.size + 1, 2, none⟩ = some (.bool n4) ∧ (((((w.alloc (.cells #[.bool n1, .slice A1 l1.length c1, .bool n2, .slice A2 l2.length c2] 59)).alloc (.cells #[.bool n3, .slice A3 l3.length c3, .bool n4, .slice A4 l4.length c4] 59)).alloc (.cells #[.bool false, .slice none 0 0] 57)).alloc (.cells #[.bool false, .slice none 0 0] 57)).drew).cell? ⟨w.heap.size + 1, 3, none⟩ = some (.slice A4 l4.length c4)) := ⟨KaX.out.1, KaX.out.2.1, KaX.out.2.2.1, KaX.out.2.2.2, KbX.out.1, KbX.out.2.1, KbX.out.2.2.1, KbX.out.2.2.2⟩
  go_region_held3 (fun w' => w'.cell? ⟨w.heap.size, 0, none⟩ = some (.bool n1) ∧ w'.cell? ⟨w.heap.size, 1, none⟩ = some (.slice A1 l1.length c1) ∧ w'.cell? ⟨w.heap.size, 2, none⟩ = some (.bool n2) ∧ w'.cell? ⟨w.heap.size, 3, none⟩ = some (.slice A2 l2.length c2) ∧ w'.cell? ⟨w.heap.size + 1, 0, none⟩ = some (.bool n3) ∧ w'.cell? ⟨w.heap.size + 1, 1, none⟩ = some (.slice A3 l3.length c3) ∧ w'.cell? ⟨w.heap.size + 1, 2, none⟩ = some (.bool n4) ∧ w'.cell? ⟨w.heap.size + 1, 3, none⟩ = some (.slice A4 l4.length c4))
    (first | with_reducible exact J6.out | with_reducible exact set8 J6.out (by omega) (by omega) _ _ | with_reducible exact set8 (set8 J6.out (by omega) (by omega) _ _) (by omega) (by omega) _ _ | with_reducible exact J5.out | with_reducible exact J4.out | with_reducible exact J3.out | with_reducible exact J2.out | with_reducible exact J1.out | with_reducible exact J0.out)
    (first
      | (go_at_call 80; (with_reducible refine (H0.out _ S1X.out S2X.out S3X.out S4X.out).mono ?_); rintro e v1 ⟨Ap, cp, rfl, hsp, hb⟩; (try dsimp only at hsp); (try dsimp only); have Kav1 : Hid (Cf v1 w.heap.size n1 A1 l1.length c1 n2 A2 l2.length c2) := Cf.keep KaX.out hb; have Kbv1 : Hid (Cf v1 (w.heap.size + 1) n3 A3 l3.length c3 n4 A4 l4.length c4) := Cf.keep KbX.out hb; have Frv1 : Hid (Fw v1 (w.heap.size + 1 + 1)) := Fw.keep FrX.out KrX.out hb; have Fuv1 : Hid (Fw v1 (w.heap.size + 1 + 1 + 1)) := Fw.keep FuX.out KuX.out hb; have Krv1 : Hid (Cw v1 (w.heap.size + 1 + 1) false none 0 0) := Cw.keep KrX.out hb; have Kuv1 : Hid (Cw v1 (w.heap.size + 1 + 1 + 1) false none 0 0) := Cw.keep KuX.out hb; have S1v1 : Hid (Sl v1 A1 l1 c1) := Sl.below S1X.out hb; have S2v1 : Hid (Sl v1 A2 l2 c2) := Sl.below S2X.out hb; have S3v1 : Hid (Sl v1 A3 l3 c3) := Sl.below S3X.out hb; have S4v1 : Hid (Sl v1 A4 l4 c4) := Sl.below S4X.out hb; have Bv1 : Hid (Below w.heap.size w v1) := below_mono BX.out hb; have J1 : Hid (v1.cell? ⟨w.heap.size, 0, none⟩ = some (.bool n1) ∧ v1.cell? ⟨w.heap.size, 1, none⟩ = some (.slice A1 l1.length c1) ∧ v1.cell? ⟨w.heap.size, 2, none⟩ = some (.bool n2) ∧ v1.cell? ⟨w.heap.size, 3, none⟩ = some (.slice A2 l2.length c2) ∧ v1.cell? ⟨w.heap.size + 1, 0, none⟩ = some (.bool n3) ∧ v1.cell? ⟨w.heap.size + 1, 1, none⟩ = some (.slice A3 l3.length c3) ∧ v1.cell? ⟨w.heap.size + 1, 2, none⟩ = some (.bool n4) ∧ v1.cell? ⟨w.heap.size + 1, 3, none⟩ = some (.slice A4 l4.length c4)) := ⟨Kav1.out.1, Kav1.out.2.1, Kav1.out.2.2.1, Kav1.out.2.2.2, Kbv1.out.1, Kbv1.out.2.1, Kbv1.out.2.2.1, Kbv1.out.2.2.2⟩; have Spv1 : Hid (Sl v1 Ap lp cp) := hsp; clear hsp; clear hb)
      | (go_at_call 80; (with_reducible refine (H1.out _ S1v1.out S2v1.out S3v1.out S4v1.out).mono ?_); rintro e v2 ⟨Aq, cq, rfl, hsq, hb⟩; (try dsimp only at hsq); (try dsimp only); have Kav2 : Hid (Cf v2 w.heap.size n1 A1 l1.length c1 n2 A2 l2.length c2) := Cf.keep Kav1.out hb; have Kbv2 : Hid (Cf v2 (w.heap.size + 1) n3 A3 l3.length c3 n4 A4 l4.length c4) := Cf.keep Kbv1.out hb; have Frv2 : Hid (Fw v2 (w.heap.size + 1 + 1)) := Fw.keep Frv1.out Krv1.out hb; have Fuv2 : Hid (Fw v2 (w.heap.size + 1 + 1 + 1)) := Fw.keep Fuv1.out Kuv1.out hb; have Krv2 : Hid (Cw v2 (w.heap.size + 1 + 1) false none 0 0) := Cw.keep Krv1.out hb; have Kuv2 : Hid (Cw v2 (w.heap.size + 1 + 1 + 1) false none 0 0) := Cw.keep Kuv1.out hb; have S1v2 : Hid (Sl v2 A1 l1 c1) := Sl.below S1v1.out hb; have S2v2 : Hid (Sl v2 A2 l2 c2) := Sl.below S2v1.out hb; have S3v2 : Hid (Sl v2 A3 l3 c3) := Sl.below S3v1.out hb; have S4v2 : Hid (Sl v2 A4 l4 c4) := Sl.below S4v1.out hb; have Spv2 : Hid (Sl v2 Ap lp cp) := Sl.below Spv1.out hb; have Bv2 : Hid (Below w.heap.size w v2) := below_mono Bv1.out hb; have J2 : Hid (v2.cell? ⟨w.heap.size, 0, none⟩ = some (.bool n1) ∧ v2.cell? ⟨w.heap.size, 1, none⟩ = some (.slice A1 l1.length c1) ∧ v2.cell? ⟨w.heap.size, 2, none⟩ = some (.bool n2) ∧ v2.cell? ⟨w.heap.size, 3, none⟩ = some (.slice A2 l2.length c2) ∧ v2.cell? ⟨w.heap.size + 1, 0, none⟩ = some (.bool n3) ∧ v2.cell? ⟨w.heap.size + 1, 1, none⟩ = some (.slice A3 l3.length c3) ∧ v2.cell? ⟨w.heap.size + 1, 2, none⟩ = some (.bool n4) ∧ v2.cell? ⟨w.heap.size + 1, 3, none⟩ = some (.slice A4 l4.length c4)) := ⟨Kav2.out.1, Kav2.out.2.1, Kav2.out.2.2.1, Kav2.out.2.2.2, Kbv2.out.1, Kbv2.out.2.1, Kbv2.out.2.2.1, Kbv2.out.2.2.2⟩; have Sqv2 : Hid (Sl v2 Aq lq cq) := hsq; clear hsq; clear hb)
      | (go_at_call 42; (with_reducible refine (wadd_any np nq _ _ lp lq _ _ _ Spv2.out Sqv2.out).mono ?_); rw [H2.out]; rintro e v3 ⟨As, cs, rfl, hss, hb⟩; (try dsimp only at hss); (try dsimp only); have Kav3 : Hid (Cf v3 w.heap.size n1 A1 l1.length c1 n2 A2 l2.length c2) := Cf.keep Kav2.out hb; have Kbv3 : Hid (Cf v3 (w.heap.size + 1) n3 A3 l3.length c3 n4 A4 l4.length c4) := Cf.keep Kbv2.out hb; have Frv3 : Hid (Fw v3 (w.heap.size + 1 + 1)) := Fw.keep Frv2.out Krv2.out hb; have Fuv3 : Hid (Fw v3 (w.heap.size + 1 + 1 + 1)) := Fw.keep Fuv2.out Kuv2.out hb; have Krv3 : Hid (Cw v3 (w.heap.size + 1 + 1) false none 0 0) := Cw.keep Krv2.out hb; have Kuv3 : Hid (Cw v3 (w.heap.size + 1 + 1 + 1) false none 0 0) := Cw.keep Kuv2.out hb; have S1v3 : Hid (Sl v3 A1 l1 c1) := Sl.below S1v2.out hb; have S2v3 : Hid (Sl v3 A2 l2 c2) := Sl.below S2v2.out hb; have S3v3 : Hid (Sl v3 A3 l3 c3) := Sl.below S3v2.out hb; have S4v3 : Hid (Sl v3 A4 l4 c4) := Sl.below S4v2.out hb; have Spv3 : Hid (Sl v3 Ap lp cp) := Sl.below Spv2.out hb; have Sqv3 : Hid (Sl v3 Aq lq cq) := Sl.below Sqv2.out hb; have Bv3 : Hid (Below w.heap.size w v3) := below_mono Bv2.out hb; have J3 : Hid (v3.cell? ⟨w.heap.size, 0, none⟩ = some (.bool n1) ∧ v3.cell? ⟨w.heap.size, 1, none⟩ = some (.slice A1 l1.length c1) ∧ v3.cell? ⟨w.heap.size, 2, none⟩ = some (.bool n2) ∧ v3.cell? ⟨w.heap.size, 3, none⟩ = some (.slice A2 l2.length c2) ∧ v3.cell? ⟨w.heap.size + 1, 0, none⟩ = some (.bool n3) ∧ v3.cell? ⟨w.heap.size + 1, 1, none⟩ = some (.slice A3 l3.length c3) ∧ v3.cell? ⟨w.heap.size + 1, 2, none⟩ = some (.bool n4) ∧ v3.cell? ⟨w.heap.size + 1, 3, none⟩ = some (.slice A4 l4.length c4)) := ⟨Kav3.out.1, Kav3.out.2.1, Kav3.out.2.2.1, Kav3.out.2.2.2, Kbv3.out.1, Kbv3.out.2.1, Kbv3.out.2.2.1, Kbv3.out.2.2.2⟩; have Ssv3 : Hid (Sl v3 As ls cs) := hss; clear hss; clear hb)
      | (go_at_call 61; (with_reducible refine (must_ok ns As ls.length cs _).mono ?_); rintro e v4 ⟨rfl, hb⟩; have Kav4 : Hid (Cf v4 w.heap.size n1 A1 l1.length c1 n2 A2 l2.length c2) := Cf.keep Kav3.out hb; have Kbv4 : Hid (Cf v4 (w.heap.size + 1) n3 A3 l3.length c3 n4 A4 l4.length c4) := Cf.keep Kbv3.out hb; have Frv4 : Hid (Fw v4 (w.heap.size + 1 + 1)) := Fw.keep Frv3.out Krv3.out hb; have Fuv4 : Hid (Fw v4 (w.heap.size + 1 + 1 + 1)) := Fw.keep Fuv3.out Kuv3.out hb; have Krv4 : Hid (Cw v4 (w.heap.size + 1 + 1) false none 0 0) := Cw.keep Krv3.out hb; have Kuv4 : Hid (Cw v4 (w.heap.size + 1 + 1 + 1) false none 0 0) := Cw.keep Kuv3.out hb; have S1v4 : Hid (Sl v4 A1 l1 c1) := Sl.below S1v3.out hb; have S2v4 : Hid (Sl v4 A2 l2 c2) := Sl.below S2v3.out hb; have S3v4 : Hid (Sl v4 A3 l3 c3) := Sl.below S3v3.out hb; have S4v4 : Hid (Sl v4 A4 l4 c4) := Sl.below S4v3.out hb; have Spv4 : Hid (Sl v4 Ap lp cp) := Sl.below Spv3.out hb; have Sqv4 : Hid (Sl v4 Aq lq cq) := Sl.below Sqv3.out hb; have Ssv4 : Hid (Sl v4 As ls cs) := Sl.below Ssv3.out hb; have Bv4 : Hid (Below w.heap.size w v4) := below_mono Bv3.out hb; have J4 : Hid (v4.cell? ⟨w.heap.size, 0, none⟩ = some (.bool n1) ∧ v4.cell? ⟨w.heap.size, 1, none⟩ = some (.slice A1 l1.length c1) ∧ v4.cell? ⟨w.heap.size, 2, none⟩ = some (.bool n2) ∧ v4.cell? ⟨w.heap.size, 3, none⟩ = some (.slice A2 l2.length c2) ∧ v4.cell? ⟨w.heap.size + 1, 0, none⟩ = some (.bool n3) ∧ v4.cell? ⟨w.heap.size + 1, 1, none⟩ = some (.slice A3 l3.length c3) ∧ v4.cell? ⟨w.heap.size + 1, 2, none⟩ = some (.bool n4) ∧ v4.cell? ⟨w.heap.size + 1, 3, none⟩ = some (.slice A4 l4.length c4)) := ⟨Kav4.out.1, Kav4.out.2.1, Kav4.out.2.2.1, Kav4.out.2.2.2, Kbv4.out.1, Kbv4.out.2.1, Kbv4.out.2.2.1, Kbv4.out.2.2.2⟩; clear hb)
      | (go_at_call 43; (with_reducible refine (wmul_any n2 n4 _ _ l2 l4 _ _ _ S2v4.out S4v4.out).mono ?_); rw [H4.out]; rintro e v5 ⟨At, ct, rfl, hst, hb⟩; (try dsimp only at hst); (try dsimp only); have Kav5 : Hid (Cf v5 w.heap.size n1 A1 l1.length c1 n2 A2 l2.length c2) := Cf.keep Kav4.out hb; have Kbv5 : Hid (Cf v5 (w.heap.size + 1) n3 A3 l3.length c3 n4 A4 l4.length c4) := Cf.keep Kbv4.out hb; have Frv5 : Hid (Fw v5 (w.heap.size + 1 + 1)) := Fw.keep Frv4.out Krv4.out hb; have Fuv5 : Hid (Fw v5 (w.heap.size + 1 + 1 + 1)) := Fw.keep Fuv4.out Kuv4.out hb; have Krv5 : Hid (Cw v5 (w.heap.size + 1 + 1) false none 0 0) := Cw.keep Krv4.out hb; have Kuv5 : Hid (Cw v5 (w.heap.size + 1 + 1 + 1) false none 0 0) := Cw.keep Kuv4.out hb; have S1v5 : Hid (Sl v5 A1 l1 c1) := Sl.below S1v4.out hb; have S2v5 : Hid (Sl v5 A2 l2 c2) := Sl.below S2v4.out hb; have S3v5 : Hid (Sl v5 A3 l3 c3) := Sl.below S3v4.out hb; have S4v5 : Hid (Sl v5 A4 l4 c4) := Sl.below S4v4.out hb; have Spv5 : Hid (Sl v5 Ap lp cp) := Sl.below Spv4.out hb; have Sqv5 : Hid (Sl v5 Aq lq cq) := Sl.below Sqv4.out hb; have Ssv5 : Hid (Sl v5 As ls cs) := Sl.below Ssv4.out hb; have Bv5 : Hid (Below w.heap.size w v5) := below_mono Bv4.out hb; have J5 : Hid (v5.cell? ⟨w.heap.size, 0, none⟩ = some (.bool n1) ∧ v5.cell? ⟨w.heap.size, 1, none⟩ = some (.slice A1 l1.length c1) ∧ v5.cell? ⟨w.heap.size, 2, none⟩ = some (.bool n2) ∧ v5.cell? ⟨w.heap.size, 3, none⟩ = some (.slice A2 l2.length c2) ∧ v5.cell? ⟨w.heap.size + 1, 0, none⟩ = some (.bool n3) ∧ v5.cell? ⟨w.heap.size + 1, 1, none⟩ = some (.slice A3 l3.length c3) ∧ v5.cell? ⟨w.heap.size + 1, 2, none⟩ = some (.bool n4) ∧ v5.cell? ⟨w.heap.size + 1, 3, none⟩ = some (.slice A4 l4.length c4)) := ⟨Kav5.out.1, Kav5.out.2.1, Kav5.out.2.2.1, Kav5.out.2.2.2, Kbv5.out.1, Kbv5.out.2.1, Kbv5.out.2.2.1, Kbv5.out.2.2.2⟩; have Stv5 : Hid (Sl v5 At lt ct) := hst; clear hst; clear hb)
      | (go_at_call 61; (with_reducible refine (must_ok nt At lt.length ct _).mono ?_); rintro e v6 ⟨rfl, hb⟩; have Kav6 : Hid (Cf v6 w.heap.size n1 A1 l1.length c1 n2 A2 l2.length c2) := Cf.keep Kav5.out hb; have Kbv6 : Hid (Cf v6 (w.heap.size + 1) n3 A3 l3.length c3 n4 A4 l4.length c4) := Cf.keep Kbv5.out hb; have Frv6 : Hid (Fw v6 (w.heap.size + 1 + 1)) := Fw.keep Frv5.out Krv5.out hb; have Fuv6 : Hid (Fw v6 (w.heap.size + 1 + 1 + 1)) := Fw.keep Fuv5.out Kuv5.out hb; have Krv6 : Hid (Cw v6 (w.heap.size + 1 + 1) false none 0 0) := Cw.keep Krv5.out hb; have Kuv6 : Hid (Cw v6 (w.heap.size + 1 + 1 + 1) false none 0 0) := Cw.keep Kuv5.out hb; have S1v6 : Hid (Sl v6 A1 l1 c1) := Sl.below S1v5.out hb; have S2v6 : Hid (Sl v6 A2 l2 c2) := Sl.below S2v5.out hb; have S3v6 : Hid (Sl v6 A3 l3 c3) := Sl.below S3v5.out hb; have S4v6 : Hid (Sl v6 A4 l4 c4) := Sl.below S4v5.out hb; have Spv6 : Hid (Sl v6 Ap lp cp) := Sl.below Spv5.out hb; have Sqv6 : Hid (Sl v6 Aq lq cq) := Sl.below Sqv5.out hb; have Ssv6 : Hid (Sl v6 As ls cs) := Sl.below Ssv5.out hb; have Stv6 : Hid (Sl v6 At lt ct) := Sl.below Stv5.out hb; have Bv6 : Hid (Below w.heap.size w v6) := below_mono Bv5.out hb; have J6 : Hid (v6.cell? ⟨w.heap.size, 0, none⟩ = some (.bool n1) ∧ v6.cell? ⟨w.heap.size, 1, none⟩ = some (.slice A1 l1.length c1) ∧ v6.cell? ⟨w.heap.size, 2, none⟩ = some (.bool n2) ∧ v6.cell? ⟨w.heap.size, 3, none⟩ = some (.slice A2 l2.length c2) ∧ v6.cell? ⟨w.heap.size + 1, 0, none⟩ = some (.bool n3) ∧ v6.cell? ⟨w.heap.size + 1, 1, none⟩ = some (.slice A3 l3.length c3) ∧ v6.cell? ⟨w.heap.size + 1, 2, none⟩ = some (.bool n4) ∧ v6.cell? ⟨w.heap.size + 1, 3, none⟩ = some (.slice A4 l4.length c4)) := ⟨Kav6.out.1, Kav6.out.2.1, Kav6.out.2.2.1, Kav6.out.2.2.2, Kbv6.out.1, Kbv6.out.2.1, Kbv6.out.2.2.1, Kbv6.out.2.2.2⟩; obtain ⟨r0, r1⟩ := Krv6.out; obtain ⟨u0, u1⟩ := Kuv6.out; obtain ⟨g0, g1⟩ := Frv6.out; obtain ⟨g2, g3⟩ := Fuv6.out; clear hb))
  go_wp2
  exact bodyPost_ret (v := .tuple #[.agg #[.bool ns, .slice As ls.length cs], .agg #[.bool nt, .slice At lt.length ct]]) (by simp [results, Try.results79, go_sem, r0, r1, u0, u1]) rfl (pres_end Ssv6.out Stv6.out Krv6.out Kuv6.out Bv6.out (by omega) (by omega) (by omega))

set_option maxRecDepth 100000 in
set_option maxHeartbeats 4000000 in
theorem sub1_ok (n1 n2 n3 n4 : Bool) (A1 A2 A3 A4 : Option Addr) (l1 l2 l3 l4 : List Nat) (c1 c2 c3 c4 : Nat) (x1 y1 x2 y2 : Int) (h1 : VZ n1 l1 x1) (h2 : VZ n2 l2 y1) (h3 : VZ n3 l3 x2) (h4 : VZ n4 l4 y2) (f0 : fitZ (x1 * y2)) (f1 : fitZ (x2 * y1)) (f2 : fitZ (x1 * y2 - x2 * y1)) (f4 : fitZ (y1 * y2)) (w : World) (hs1 : Sl w A1 l1 c1) (hs2 : Sl w A2 l2 c2) (hs3 : Sl w A3 l3 c3) (hs4 : Sl w A4 l4 c4) :
    Calls Try.prog 81 #[.agg #[.bool n1, .slice A1 l1.length c1, .bool n2, .slice A2 l2.length c2], .agg #[.bool n3, .slice A3 l3.length c3, .bool n4, .slice A4 l4.length c4]] w (PRes (wOf (x1 * y2 - x2 * y1)) (wOf (y1 * y2)) w) := by
  obtain ⟨np, lp, ep⟩ : ∃ n l, wOf (x1 * y2) = (n, l) := ⟨_, _, rfl⟩
  have vp := vz_mk ep.symm f0
  have H0 : Hid (∀ W, Sl W A1 l1 c1 → Sl W A2 l2 c2 → Sl W A3 l3 c3 → Sl W A4 l4 c4 → Calls Try.prog 80 #[.agg #[.bool n1, .slice A1 l1.length c1, .bool n2, .slice A2 l2.length c2], .agg #[.bool n3, .slice A3 l3.length c3, .bool n4, .slice A4 l4.length c4]] W (WRes1 (np, lp) W)) := fun W a b c d => by rw [← ep]; exact cross_ok n1 n2 n3 n4 A1 A2 A3 A4 l1 l2 l3 l4 c1 c2 c3 c4 x1 y2 h1 h4 f0 W a b c d
  obtain ⟨nq, lq, eq⟩ : ∃ n l, wOf (x2 * y1) = (n, l) := ⟨_, _, rfl⟩
  have vq := vz_mk eq.symm f1
  have H1 : Hid (∀ W, Sl W A1 l1 c1 → Sl W A2 l2 c2 → Sl W A3 l3 c3 → Sl W A4 l4 c4 → Calls Try.prog 80 #[.agg #[.bool n3, .slice A3 l3.length c3, .bool n4, .slice A4 l4.length c4], .agg #[.bool n1, .slice A1 l1.length c1, .bool n2, .slice A2 l2.length c2]] W (WRes1 (nq, lq) W)) := fun W a b c d => by rw [← eq]; exact cross_ok n3 n4 n1 n2 A3 A4 A1 A2 l3 l4 l1 l2 c3 c4 c1 c2 x2 y1 h3 h2 f1 W c d a b
  obtain ⟨ns, ls, es⟩ : ∃ n l, wOf (x1 * y2 - x2 * y1) = (n, l) := ⟨_, _, rfl⟩
  have vs := vz_mk es.symm f2
  have H2 : Hid (subS np lp nq lq = ((ns, ls), 0)) := by rw [← es]; exact subS_z vp vq f2
  obtain ⟨nt, lt, et⟩ : ∃ n l, wOf (y1 * y2) = (n, l) := ⟨_, _, rfl⟩
  have vt := vz_mk et.symm f4
  have H4 : Hid (mulS n2 l2 n4 l4 = ((nt, lt), 0)) := by rw [← et]; exact mulS_z h2 h4 f4
  rw [es, et]
  have S1 := Lib.hid hs1
  have S2 := Lib.hid hs2
  have S3 := Lib.hid hs3
  have S4 := Lib.hid hs4
  have B : Hid (Below w.heap.size w w) := Below.refl _ _
  clear hs1 hs2 hs3 hs4 h1 h2 h3 h4 f0 ep vp f1 eq vq f2 es vs f4 et vt
  go_enter Try.func81, Try.ntmps81
  go_wp2_with fail
  have KaX : Hid (Cf (((((w.alloc (.cells #[.bool n1, .slice A1 l1.length c1, .bool n2, .slice A2 l2.length c2] 59)).alloc (.cells #[.bool n3, .slice A3 l3.length c3, .bool n4, .slice A4 l4.length c4] 59)).alloc (.cells #[.bool false, .slice none 0 0] 57)).alloc (.cells #[.bool false, .slice none 0 0] 57)).drew) w.heap.size n1 A1 l1.length c1 n2 A2 l2.length c2) := Cf.drew (Cf.keep (Cf.keep (Cf.keep (Cf.fresh (by simp) _ _ _ _ _ _ _ _ _) (blw1 _ _)) (blw1 _ _)) (blw1 _ _))
  have KbX : Hid (Cf (((((w.alloc (.cells #[.bool n1, .slice A1 l1.length c1, .bool n2, .slice A2 l2.length c2] 59)).alloc (.cells #[.bool n3, .slice A3 l3.length c3, .bool n4, .slice A4 l4.length c4] 59)).alloc (.cells #[.bool false, .slice none 0 0] 57)).alloc (.cells #[.bool false, .slice none 0 0] 57)).drew) (w.heap.size + 1) n3 A3 l3.length c3 n4 A4 l4.length c4) := Cf.drew (Cf.keep (Cf.keep (Cf.fresh (by simp) _ _ _ _ _ _ _ _ _) (blw1 _ _)) (blw1 _ _))
  have KrX : Hid (Cw (((((w.alloc (.cells #[.bool n1, .slice A1 l1.length c1, .bool n2, .slice A2 l2.length c2] 59)).alloc (.cells #[.bool n3, .slice A3 l3.length c3, .bool n4, .slice A4 l4.length c4] 59)).alloc (.cells #[.bool false, .slice none 0 0] 57)).alloc (.cells #[.bool false, .slice none 0 0] 57)).drew) (w.heap.size + 1 + 1) false none 0 0) := Cw.drew (Cw.keep (Cw.fresh (by simp) _ _ _ _ _) (blw1 _ _))
  have KuX : Hid (Cw (((((w.alloc (.cells #[.bool n1, .slice A1 l1.length c1, .bool n2, .slice A2 l2.length c2] 59)).alloc (.cells #[.bool n3, .slice A3 l3.length c3, .bool n4, .slice A4 l4.length c4] 59)).alloc (.cells #[.bool false, .slice none 0 0] 57)).alloc (.cells #[.bool false, .slice none 0 0] 57)).drew) (w.heap.size + 1 + 1 + 1) false none 0 0) := Cw.drew (Cw.fresh (by simp) _ _ _ _ _)
  have FrX : Hid (Fw (((((w.alloc (.cells #[.bool n1, .slice A1 l1.length c1, .bool n2, .slice A2 l2.length c2] 59)).alloc (.cells #[.bool n3, .slice A3 l3.length c3, .bool n4, .slice A4 l4.length c4] 59)).alloc (.cells #[.bool false, .slice none 0 0] 57)).alloc (.cells #[.bool false, .slice none 0 0] 57)).drew) (w.heap.size + 1 + 1)) := Fw.drew (Fw.keep (Fw.fresh (by simp) _ _) (Cw.fresh (by simp) _ _ _ _ _) (blw1 _ _))
  have FuX : Hid (Fw (((((w.alloc (.cells #[.bool n1, .slice A1 l1.length c1, .bool n2, .slice A2 l2.length c2] 59)).alloc (.cells #[.bool n3, .slice A3 l3.length c3, .bool n4, .slice A4 l4.length c4] 59)).alloc (.cells #[.bool false, .slice none 0 0] 57)).alloc (.cells #[.bool false, .slice none 0 0] 57)).drew) (w.heap.size + 1 + 1 + 1)) := Fw.drew (Fw.fresh (by simp) _ _)
  have S1X : Hid (Sl (((((w.alloc (.cells #[.bool n1, .slice A1 l1.length c1, .bool n2, .slice A2 l2.length c2] 59)).alloc (.cells #[.bool n3, .slice A3 l3.length c3, .bool n4, .slice A4 l4.length c4] 59)).alloc (.cells #[.bool false, .slice none 0 0] 57)).alloc (.cells #[.bool false, .slice none 0 0] 57)).drew) A1 l1 c1) := Sl.drew ((((S1.out.alloc _).alloc _).alloc _).alloc _)
  have S2X : Hid (Sl (((((w.alloc (.cells #[.bool n1, .slice A1 l1.length c1, .bool n2, .slice A2 l2.length c2] 59)).alloc (.cells #[.bool n3, .slice A3 l3.length c3, .bool n4, .slice A4 l4.length c4] 59)).alloc (.cells #[.bool false, .slice none 0 0] 57)).alloc (.cells #[.bool false, .slice none 0 0] 57)).drew) A2 l2 c2) := Sl.drew ((((S2.out.alloc _).alloc _).alloc _).alloc _)
  have S3X : Hid (Sl (((((w.alloc (.cells #[.bool n1, .slice A1 l1.length c1, .bool n2, .slice A2 l2.length c2] 59)).alloc (.cells #[.bool n3, .slice A3 l3.length c3, .bool n4, .slice A4 l4.length c4] 59)).alloc (.cells #[.bool false, .slice none 0 0] 57)).alloc (.cells #[.bool false, .slice none 0 0] 57)).drew) A3 l3 c3) := Sl.drew ((((S3.out.alloc _).alloc _).alloc _).alloc _)
  have S4X : Hid (Sl (((((w.alloc (.cells #[.bool n1, .slice A1 l1.length c1, .bool n2, .slice A2 l2.length c2] 59)).alloc (.cells #[.bool n3, .slice A3 l3.length c3, .bool n4, .slice A4 l4.length c4] 59)).alloc (.cells #[.bool false, .slice none 0 0] 57)).alloc (.cells #[.bool false, .slice none 0 0] 57)).drew) A4 l4 c4) := Sl.drew ((((S4.out.alloc _).alloc _).alloc _).alloc _)
  have BX : Hid (Below w.heap.size w (((((w.alloc (.cells #[.bool n1, .slice A1 l1.length c1, .bool n2, .slice A2 l2.length c2] 59)).alloc (.cells #[.bool n3, .slice A3 l3.length c3, .bool n4, .slice A4 l4.length c4] 59)).alloc (.cells #[.bool false, .slice none 0 0] 57)).alloc (.cells #[.bool false, .slice none 0 0] 57)).drew)) := Below.drew (below_mono (below_mono (below_mono (below_mono B.out (blw1 _ _)) (blw1 _ _)) (blw1 _ _)) (blw1 _ _))
  clear S1 S2 S3 S4 B
  have J0 : Hid ((((((w.alloc (.cells #[.bool n1, .slice A1 l1.length c1, .bool n2, .slice A2 l2.length c2] 59)).alloc (.cells #[.bool n3, .slice A3 l3.length c3, .bool n4, .slice A4 l4.length c4] 59)).alloc (.cells #[.bool false, .slice none 0 0] 57)).alloc (.cells #[.bool false, .slice none 0 0] 57)).drew).cell? ⟨w.heap.size, 0, none⟩ = some (.bool n1) ∧ (((((w.alloc (.cells #[.bool n1, .slice A1 l1.length c1, .bool n2, .slice A2 l2.length c2] 59)).alloc (.cells #[.bool n3, .slice A3 l3.length c3, .bool n4, .slice A4 l4.length c4] 59)).alloc (.cells #[.bool false, .slice none 0 0] 57)).alloc (.cells #[.bool false, .slice none 0 0] 57)).drew).cell? ⟨w.heap.size, 1, none⟩ = some (.slice A1 l1.length c1) ∧ (((((w.alloc (.cells #[.bool n1, .slice A1 l1.length c1, .bool n2, .slice A2 l2.length c2] 59)).alloc (.cells #[.bool n3, .slice A3 l3.length c3, .bool n4, .slice A4 l4.length c4] 59)).alloc (.cells #[.bool false, .slice none 0 0] 57)).alloc (.cells #[.bool false, .slice none 0 0] 57)).drew).cell? ⟨w.heap.size, 2, none⟩ = some (.bool n2) ∧ (((((w.alloc (.cells #[.bool n1, .slice A1 l1.length c1, .bool n2, .slice A2 l2.length c2] 59)).alloc (.cells #[.bool n3, .slice A3 l3.length c3, .bool n4, .slice A4 l4.length c4] 59)).alloc (.cells #[.bool false, .slice none 0 0] 57)).alloc (.cells #[.bool false, .slice none 0 0] 57)).drew).cell? ⟨w.heap.size, 3, none⟩ = some (.slice A2 l2.length c2) ∧ (((((w.alloc (.cells #[.bool n1, .slice A1 l1.length c1, .bool n2, .slice A2 l2.length c2] 59)).alloc (.cells #[.bool n3, .slice A3 l3.length c3, .bool n4, .slice A4 l4.length c4] 59)).alloc (.cells #[.bool false, .slice none 0 0] 57)).alloc (.cells #[.bool false, .slice none 0 0] 57)).drew).cell? ⟨w.heap.size + 1, 0, none⟩ = some (.bool n3) ∧ (((((w.alloc (.cells #[.bool n1, .slice A1 l1.length c1, .bool n2, .slice A2 l2.length c2] 59)).alloc (.cells #[.bool n3, .slice A3 l3.length c3, .bool n4, .slice A4 l4.length c4] 59)).alloc (.cells #[.bool false, .slice none 0 0] 57)).alloc (.cells #[.bool false, .slice none 0 0] 57)).drew).cell? ⟨w.heap.size + 1, 1, none⟩ = some (.slice A3 l3.length c3) ∧ (((((w.alloc (.cells #[.bool n1, .slice A1 l1.length c1, .bool n2, .slice A2 l2.length c2] 59)).alloc (.cells #[.bool n3, .slice A3 l3.length c3, .bool n4, .slice A4 l4.length c4] 59)).alloc (.cells #[.bool false, .slice none 0 0] 57)).alloc (.cells #[.bool false, .slice none 0 0] 57)).drew).cell? ⟨w.heap.size + 1, 2, none⟩ = some (.bool n4) ∧ (((((w.alloc (.cells #[.bool n1, .slice A1 l1.length c1, .bool n2, .slice A2 l2.length c2] 59)).alloc (.cells #[.bool n3, .slice A3 l3.length c3, .bool n4, .slice A4 l4.length c4] 59)).alloc (.cells #[.bool false, .slice none 0 0] 57)).alloc (.cells #[.bool false, .slice none 0 0] 57)).drew).cell? ⟨w.heap.size + 1, 3, none⟩ = some (.slice A4 l4.length c4)) := ⟨KaX.out.1, KaX.out.2.1, KaX.out.2.2.1, KaX.out.2.2.2, KbX.out.1, KbX.out.2.1, KbX.out.2.2.1, KbX.out.2.2.2⟩
  go_region_held3 (fun w' => w'.cell? ⟨w.heap.size, 0, none⟩ = some (.bool n1) ∧ w'.cell? ⟨w.heap.size, 1, none⟩ = some (.slice A1 l1.length c1) ∧ w'.cell? ⟨w.heap.size, 2, none⟩ = some (.bool n2) ∧ w'.cell? ⟨w.heap.size, 3, none⟩ = some (.slice A2 l2.length c2) ∧ w'.cell? ⟨w.heap.size + 1, 0, none⟩ = some (.bool n3) ∧ w'.cell? ⟨w.heap.size + 1, 1, none⟩ = some (.slice A3 l3.length c3) ∧ w'.cell? ⟨w.heap.size + 1, 2, none⟩ = some (.bool n4) ∧ w'.cell? ⟨w.heap.size + 1, 3, none⟩ = some (.slice A4 l4.length c4))
    (first | with_reducible exact J6.out | with_reducible exact set8 J6.out (by omega) (by omega) _ _ | with_reducible exact set8 (set8 J6.out (by omega) (by omega) _ _) (by omega) (by omega) _ _ | with_reducible exact J5.out | with_reducible exact J4.out | with_reducible exact J3.out | with_reducible exact J2.out | with_reducible exact J1.out | with_reducible exact J0.out)
    (first
      | (go_at_call 80; (with_reducible refine (H0.out _ S1X.out S2X.out S3X.out S4X.out).mono ?_); rintro e v1 ⟨Ap, cp, rfl, hsp, hb⟩; (try dsimp only at hsp); (try dsimp only); have Kav1 : Hid (Cf v1 w.heap.size n1 A1 l1.length c1 n2 A2 l2.length c2) := Cf.keep KaX.out hb; have Kbv1 : Hid (Cf v1 (w.heap.size + 1) n3 A3 l3.length c3 n4 A4 l4.length c4) := Cf.keep KbX.out hb; have Frv1 : Hid (Fw v1 (w.heap.size + 1 + 1)) := Fw.keep FrX.out KrX.out hb; have Fuv1 : Hid (Fw v1 (w.heap.size + 1 + 1 + 1)) := Fw.keep FuX.out KuX.out hb; have Krv1 : Hid (Cw v1 (w.heap.size + 1 + 1) false none 0 0) := Cw.keep KrX.out hb; have Kuv1 : Hid (Cw v1 (w.heap.size + 1 + 1 + 1) false none 0 0) := Cw.keep KuX.out hb; have S1v1 : Hid (Sl v1 A1 l1 c1) := Sl.below S1X.out hb; have S2v1 : Hid (Sl v1 A2 l2 c2) := Sl.below S2X.out hb; have S3v1 : Hid (Sl v1 A3 l3 c3) := Sl.below S3X.out hb; have S4v1 : Hid (Sl v1 A4 l4 c4) := Sl.below S4X.out hb; have Bv1 : Hid (Below w.heap.size w v1) := below_mono BX.out hb; have J1 : Hid (v1.cell? ⟨w.heap.size, 0, none⟩ = some (.bool n1) ∧ v1.cell? ⟨w.heap.size, 1, none⟩ = some (.slice A1 l1.length c1) ∧ v1.cell? ⟨w.heap.size, 2, none⟩ = some (.bool n2) ∧ v1.cell? ⟨w.heap.size, 3, none⟩ = some (.slice A2 l2.length c2) ∧ v1.cell? ⟨w.heap.size + 1, 0, none⟩ = some (.bool n3) ∧ v1.cell? ⟨w.heap.size + 1, 1, none⟩ = some (.slice A3 l3.length c3) ∧ v1.cell? ⟨w.heap.size + 1, 2, none⟩ = some (.bool n4) ∧ v1.cell? ⟨w.heap.size + 1, 3, none⟩ = some (.slice A4 l4.length c4)) := ⟨Kav1.out.1, Kav1.out.2.1, Kav1.out.2.2.1, Kav1.out.2.2.2, Kbv1.out.1, Kbv1.out.2.1, Kbv1.out.2.2.1, Kbv1.out.2.2.2⟩; have Spv1 : Hid (Sl v1 Ap lp cp) := hsp; clear hsp; clear hb)
      | (go_at_call 80; (with_reducible refine (H1.out _ S1v1.out S2v1.out S3v1.out S4v1.out).mono ?_); rintro e v2 ⟨Aq, cq, rfl, hsq, hb⟩; (try dsimp only at hsq); (try dsimp only); have Kav2 : Hid (Cf v2 w.heap.size n1 A1 l1.length c1 n2 A2 l2.length c2) := Cf.keep Kav1.out hb; have Kbv2 : Hid (Cf v2 (w.heap.size + 1) n3 A3 l3.length c3 n4 A4 l4.length c4) := Cf.keep Kbv1.out hb; have Frv2 : Hid (Fw v2 (w.heap.size + 1 + 1)) := Fw.keep Frv1.out Krv1.out hb; have Fuv2 : Hid (Fw v2 (w.heap.size + 1 + 1 + 1)) := Fw.keep Fuv1.out Kuv1.out hb; have Krv2 : Hid (Cw v2 (w.heap.size + 1 + 1) false none 0 0) := Cw.keep Krv1.out hb; have Kuv2 : Hid (Cw v2 (w.heap.size + 1 + 1 + 1) false none 0 0) := Cw.keep Kuv1.out hb; have S1v2 : Hid (Sl v2 A1 l1 c1) := Sl.below S1v1.out hb; have S2v2 : Hid (Sl v2 A2 l2 c2) := Sl.below S2v1.out hb; have S3v2 : Hid (Sl v2 A3 l3 c3) := Sl.below S3v1.out hb; have S4v2 : Hid (Sl v2 A4 l4 c4) := Sl.below S4v1.out hb; have Spv2 : Hid (Sl v2 Ap lp cp) := Sl.below Spv1.out hb; have Bv2 : Hid (Below w.heap.size w v2) := below_mono Bv1.out hb; have J2 : Hid (v2.cell? ⟨w.heap.size, 0, none⟩ = some (.bool n1) ∧ v2.cell? ⟨w.heap.size, 1, none⟩ = some (.slice A1 l1.length c1) ∧ v2.cell? ⟨w.heap.size, 2, none⟩ = some (.bool n2) ∧ v2.cell? ⟨w.heap.size, 3, none⟩ = some (.slice A2 l2.length c2) ∧ v2.cell? ⟨w.heap.size + 1, 0, none⟩ = some (.bool n3) ∧ v2.cell? ⟨w.heap.size + 1, 1, none⟩ = some (.slice A3 l3.length c3) ∧ v2.cell? ⟨w.heap.size + 1, 2, none⟩ = some (.bool n4) ∧ v2.cell? ⟨w.heap.size + 1, 3, none⟩ = some (.slice A4 l4.length c4)) := ⟨Kav2.out.1, Kav2.out.2.1, Kav2.out.2.2.1, Kav2.out.2.2.2, Kbv2.out.1, Kbv2.out.2.1, Kbv2.out.2.2.1, Kbv2.out.2.2.2⟩; have Sqv2 : Hid (Sl v2 Aq lq cq) := hsq; clear hsq; clear hb)
      | (go_at_call 56; (with_reducible refine (wsub_any np nq _ _ lp lq _ _ _ Spv2.out Sqv2.out).mono ?_); rw [H2.out]; rintro e v3 ⟨As, cs, rfl, hss, hb⟩; (try dsimp only at hss); (try dsimp only); have Kav3 : Hid (Cf v3 w.heap.size n1 A1 l1.length c1 n2 A2 l2.length c2) := Cf.keep Kav2.out hb; have Kbv3 : Hid (Cf v3 (w.heap.size + 1) n3 A3 l3.length c3 n4 A4 l4.length c4) := Cf.keep Kbv2.out hb; have Frv3 : Hid (Fw v3 (w.heap.size + 1 + 1)) := Fw.keep Frv2.out Krv2.out hb; have Fuv3 : Hid (Fw v3 (w.heap.size + 1 + 1 + 1)) := Fw.keep Fuv2.out Kuv2.out hb; have Krv3 : Hid (Cw v3 (w.heap.size + 1 + 1) false none 0 0) := Cw.keep Krv2.out hb; have Kuv3 : Hid (Cw v3 (w.heap.size + 1 + 1 + 1) false none 0 0) := Cw.keep Kuv2.out hb; have S1v3 : Hid (Sl v3 A1 l1 c1) := Sl.below S1v2.out hb; have S2v3 : Hid (Sl v3 A2 l2 c2) := Sl.below S2v2.out hb; have S3v3 : Hid (Sl v3 A3 l3 c3) := Sl.below S3v2.out hb; have S4v3 : Hid (Sl v3 A4 l4 c4) := Sl.below S4v2.out hb; have Spv3 : Hid (Sl v3 Ap lp cp) := Sl.below Spv2.out hb; have Sqv3 : Hid (Sl v3 Aq lq cq) := Sl.below Sqv2.out hb; have Bv3 : Hid (Below w.heap.size w v3) := below_mono Bv2.out hb; have J3 : Hid (v3.cell? ⟨w.heap.size, 0, none⟩ = some (.bool n1) ∧ v3.cell? ⟨w.heap.size, 1, none⟩ = some (.slice A1 l1.length c1) ∧ v3.cell? ⟨w.heap.size, 2, none⟩ = some (.bool n2) ∧ v3.cell? ⟨w.heap.size, 3, none⟩ = some (.slice A2 l2.length c2) ∧ v3.cell? ⟨w.heap.size + 1, 0, none⟩ = some (.bool n3) ∧ v3.cell? ⟨w.heap.size + 1, 1, none⟩ = some (.slice A3 l3.length c3) ∧ v3.cell? ⟨w.heap.size + 1, 2, none⟩ = some (.bool n4) ∧ v3.cell? ⟨w.heap.size + 1, 3, none⟩ = some (.slice A4 l4.length c4)) := ⟨Kav3.out.1, Kav3.out.2.1, Kav3.out.2.2.1, Kav3.out.2.2.2, Kbv3.out.1, Kbv3.out.2.1, Kbv3.out.2.2.1, Kbv3.out.2.2.2⟩; have Ssv3 : Hid (Sl v3 As ls cs) := hss; clear hss; clear hb)
      | (go_at_call 61; (with_reducible refine (must_ok ns As ls.length cs _).mono ?_); rintro e v4 ⟨rfl, hb⟩; have Kav4 : Hid (Cf v4 w.heap.size n1 A1 l1.length c1 n2 A2 l2.length c2) := Cf.keep Kav3.out hb; have Kbv4 : Hid (Cf v4 (w.heap.size + 1) n3 A3 l3.length c3 n4 A4 l4.length c4) := Cf.keep Kbv3.out hb; have Frv4 : Hid (Fw v4 (w.heap.size + 1 + 1)) := Fw.keep Frv3.out Krv3.out hb; have Fuv4 : Hid (Fw v4 (w.heap.size + 1 + 1 + 1)) := Fw.keep Fuv3.out Kuv3.out hb; have Krv4 : Hid (Cw v4 (w.heap.size + 1 + 1) false none 0 0) := Cw.keep Krv3.out hb; have Kuv4 : Hid (Cw v4 (w.heap.size + 1 + 1 + 1) false none 0 0) := Cw.keep Kuv3.out hb; have S1v4 : Hid (Sl v4 A1 l1 c1) := Sl.below S1v3.out hb; have S2v4 : Hid (Sl v4 A2 l2 c2) := Sl.below S2v3.out hb; have S3v4 : Hid (Sl v4 A3 l3 c3) := Sl.below S3v3.out hb; have S4v4 : Hid (Sl v4 A4 l4 c4) := Sl.below S4v3.out hb; have Spv4 : Hid (Sl v4 Ap lp cp) := Sl.below Spv3.out hb; have Sqv4 : Hid (Sl v4 Aq lq cq) := Sl.below Sqv3.out hb; have Ssv4 : Hid (Sl v4 As ls cs) := Sl.below Ssv3.out hb; have Bv4 : Hid (Below w.heap.size w v4) := below_mono Bv3.out hb; have J4 : Hid (v4.cell? ⟨w.heap.size, 0, none⟩ = some (.bool n1) ∧ v4.cell? ⟨w.heap.size, 1, none⟩ = some (.slice A1 l1.length c1) ∧ v4.cell? ⟨w.heap.size, 2, none⟩ = some (.bool n2) ∧ v4.cell? ⟨w.heap.size, 3, none⟩ = some (.slice A2 l2.length c2) ∧ v4.cell? ⟨w.heap.size + 1, 0, none⟩ = some (.bool n3) ∧ v4.cell? ⟨w.heap.size + 1, 1, none⟩ = some (.slice A3 l3.length c3) ∧ v4.cell? ⟨w.heap.size + 1, 2, none⟩ = some (.bool n4) ∧ v4.cell? ⟨w.heap.size + 1, 3, none⟩ = some (.slice A4 l4.length c4)) := ⟨Kav4.out.1, Kav4.out.2.1, Kav4.out.2.2.1, Kav4.out.2.2.2, Kbv4.out.1, Kbv4.out.2.1, Kbv4.out.2.2.1, Kbv4.out.2.2.2⟩; clear hb)
      | (go_at_call 43; (with_reducible refine (wmul_any n2 n4 _ _ l2 l4 _ _ _ S2v4.out S4v4.out).mono ?_); rw [H4.out]; rintro e v5 ⟨At, ct, rfl, hst, hb⟩; (try dsimp only at hst); (try dsimp only); have Kav5 : Hid (Cf v5 w.heap.size n1 A1 l1.length c1 n2 A2 l2.length c2) := Cf.keep Kav4.out hb; have Kbv5 : Hid (Cf v5 (w.heap.size + 1) n3 A3 l3.length c3 n4 A4 l4.length c4) := Cf.keep Kbv4.out hb; have Frv5 : Hid (Fw v5 (w.heap.size + 1 + 1)) := Fw.keep Frv4.out Krv4.out hb; have Fuv5 : Hid (Fw v5 (w.heap.size + 1 + 1 + 1)) := Fw.keep Fuv4.out Kuv4.out hb; have Krv5 : Hid (Cw v5 (w.heap.size + 1 + 1) false none 0 0) := Cw.keep Krv4.out hb; have Kuv5 : Hid (Cw v5 (w.heap.size + 1 + 1 + 1) false none 0 0) := Cw.keep Kuv4.out hb; have S1v5 : Hid (Sl v5 A1 l1 c1) := Sl.below S1v4.out hb; have S2v5 : Hid (Sl v5 A2 l2 c2) := Sl.below S2v4.out hb; have S3v5 : Hid (Sl v5 A3 l3 c3) := Sl.below S3v4.out hb; have S4v5 : Hid (Sl v5 A4 l4 c4) := Sl.below S4v4.out hb; have Spv5 : Hid (Sl v5 Ap lp cp) := Sl.below Spv4.out hb; have Sqv5 : Hid (Sl v5 Aq lq cq) := Sl.below Sqv4.out hb; have Ssv5 : Hid (Sl v5 As ls cs) := Sl.below Ssv4.out hb; have Bv5 : Hid (Below w.heap.size w v5) := below_mono Bv4.out hb; have J5 : Hid (v5.cell? ⟨w.heap.size, 0, none⟩ = some (.bool n1) ∧ v5.cell? ⟨w.heap.size, 1, none⟩ = some (.slice A1 l1.length c1) ∧ v5.cell? ⟨w.heap.size, 2, none⟩ = some (.bool n2) ∧ v5.cell? ⟨w.heap.size, 3, none⟩ = some (.slice A2 l2.length c2) ∧ v5.cell? ⟨w.heap.size + 1, 0, none⟩ = some (.bool n3) ∧ v5.cell? ⟨w.heap.size + 1, 1, none⟩ = some (.slice A3 l3.length c3) ∧ v5.cell? ⟨w.heap.size + 1, 2, none⟩ = some (.bool n4) ∧ v5.cell? ⟨w.heap.size + 1, 3, none⟩ = some (.slice A4 l4.length c4)) := ⟨Kav5.out.1, Kav5.out.2.1, Kav5.out.2.2.1, Kav5.out.2.2.2, Kbv5.out.1, Kbv5.out.2.1, Kbv5.out.2.2.1, Kbv5.out.2.2.2⟩; have Stv5 : Hid (Sl v5 At lt ct) := hst; clear hst; clear hb)
      | (go_at_call 61; (with_reducible refine (must_ok nt At lt.length ct _).mono ?_); rintro e v6 ⟨rfl, hb⟩; have Kav6 : Hid (Cf v6 w.heap.size n1 A1 l1.length c1 n2 A2 l2.length c2) := Cf.keep Kav5.out hb; have Kbv6 : Hid (Cf v6 (w.heap.size + 1) n3 A3 l3.length c3 n4 A4 l4.length c4) := Cf.keep Kbv5.out hb; have Frv6 : Hid (Fw v6 (w.heap.size + 1 + 1)) := Fw.keep Frv5.out Krv5.out hb; have Fuv6 : Hid (Fw v6 (w.heap.size + 1 + 1 + 1)) := Fw.keep Fuv5.out Kuv5.out hb; have Krv6 : Hid (Cw v6 (w.heap.size + 1 + 1) false none 0 0) := Cw.keep Krv5.out hb; have Kuv6 : Hid (Cw v6 (w.heap.size + 1 + 1 + 1) false none 0 0) := Cw.keep Kuv5.out hb; have S1v6 : Hid (Sl v6 A1 l1 c1) := Sl.below S1v5.out hb; have S2v6 : Hid (Sl v6 A2 l2 c2) := Sl.below S2v5.out hb; have S3v6 : Hid (Sl v6 A3 l3 c3) := Sl.below S3v5.out hb; have S4v6 : Hid (Sl v6 A4 l4 c4) := Sl.below S4v5.out hb; have Spv6 : Hid (Sl v6 Ap lp cp) := Sl.below Spv5.out hb; have Sqv6 : Hid (Sl v6 Aq lq cq) := Sl.below Sqv5.out hb; have Ssv6 : Hid (Sl v6 As ls cs) := Sl.below Ssv5.out hb; have Stv6 : Hid (Sl v6 At lt ct) := Sl.below Stv5.out hb; have Bv6 : Hid (Below w.heap.size w v6) := below_mono Bv5.out hb; have J6 : Hid (v6.cell? ⟨w.heap.size, 0, none⟩ = some (.bool n1) ∧ v6.cell? ⟨w.heap.size, 1, none⟩ = some (.slice A1 l1.length c1) ∧ v6.cell? ⟨w.heap.size, 2, none⟩ = some (.bool n2) ∧ v6.cell? ⟨w.heap.size, 3, none⟩ = some (.slice A2 l2.length c2) ∧ v6.cell? ⟨w.heap.size + 1, 0, none⟩ = some (.bool n3) ∧ v6.cell? ⟨w.heap.size + 1, 1, none⟩ = some (.slice A3 l3.length c3) ∧ v6.cell? ⟨w.heap.size + 1, 2, none⟩ = some (.bool n4) ∧ v6.cell? ⟨w.heap.size + 1, 3, none⟩ = some (.slice A4 l4.length c4)) := ⟨Kav6.out.1, Kav6.out.2.1, Kav6.out.2.2.1, Kav6.out.2.2.2, Kbv6.out.1, Kbv6.out.2.1, Kbv6.out.2.2.1, Kbv6.out.2.2.2⟩; obtain ⟨r0, r1⟩ := Krv6.out; obtain ⟨u0, u1⟩ := Kuv6.out; obtain ⟨g0, g1⟩ := Frv6.out; obtain ⟨g2, g3⟩ := Fuv6.out; clear hb))
  go_wp2
  exact bodyPost_ret (v := .tuple #[.agg #[.bool ns, .slice As ls.length cs], .agg #[.bool nt, .slice At lt.length ct]]) (by simp [results, Try.results81, go_sem, r0, r1, u0, u1]) rfl (pres_end Ssv6.out Stv6.out Krv6.out Kuv6.out Bv6.out (by omega) (by omega) (by omega))

set_option maxRecDepth 100000 in
set_option maxHeartbeats 2000000 in
theorem add_bothG (n1 n2 n3 n4 : Bool) (A1 A2 A3 A4 : Option Addr) (l1 l2 l3 l4 : List Nat) (c1 c2 c3 c4 : Nat) (hg : (bothF n1 l1 n2 l2 n3 l3 n4 l4 addV).2 = 0) (w : World) (hs1 : Sl w A1 l1 c1) (hs2 : Sl w A2 l2 c2) (hs3 : Sl w A3 l3 c3) (hs4 : Sl w A4 l4 c4) :
    Calls Try.prog 59 #[.agg #[.bool n1, .slice A1 l1.length c1, .bool n2, .slice A2 l2.length c2], .agg #[.bool n3, .slice A3 l3.length c3, .bool n4, .slice A4 l4.length c4], .func (.func 79) #[] #[]] w (FRes (bothF n1 l1 n2 l2 n3 l3 n4 l4 addV) w) := by
  have hF : ∀ (args : Array Value) (W : World), (callFunc 79 args).run Try.prog W = .ok (.enter 79 args) W := fun _ _ => rfl
  cases hb1 : badF n1 l1 n2 l2 with
  | true =>
    have hr : bothF n1 l1 n2 l2 n3 l3 n4 l4 addV = (zF, 8) := by unfold bothF; rw [hb1]; rfl
    rw [hr]
    rw [hr] at hg; exact absurd hg (by decide)
  | false =>
    have k1 : chkF n1 l1 n2 l2 = 0 := by unfold chkF; rw [hb1]; rfl
    cases hb2 : badF n3 l3 n4 l4 with
    | true =>
      have hr : bothF n1 l1 n2 l2 n3 l3 n4 l4 addV = (zF, 8) := by unfold bothF; rw [hb1, hb2]; rfl
      rw [hr]
      rw [hr] at hg; exact absurd hg (by decide)
    | false =>
      have k2 : chkF n3 l3 n4 l4 = 0 := by unfold chkF; rw [hb2]; rfl
      have va := vf_of hs1.lim hs2.lim hb1
      have vb := vf_of hs3.lim hs4.lim hb2
      rw [both_good va vb] at hg ⊢
      obtain ⟨h1, h2, hp1, _⟩ := va
      obtain ⟨h3, h4, hp2, _⟩ := vb
      generalize zv n1 l1 = x1 at *
      generalize zv n2 l2 = y1 at *
      generalize zv n3 l3 = x2 at *
      generalize zv n4 l4 = y2 at *
      unfold addV at hg ⊢
      unfold outF at hg ⊢
      cases f0 : fitB (x1 * y2) with
      | false =>
        rw [if_neg (by simp)]
        rw [f0, if_neg (by simp)] at hg; exact absurd hg (by decide)
      | true =>
        cases f1 : fitB (x2 * y1) with
        | false =>
          rw [if_neg (by simp)]
          rw [f1, if_neg (by simp)] at hg; exact absurd hg (by decide)
        | true =>
          cases f2 : fitB (x1 * y2 + x2 * y1) with
          | false =>
            rw [if_neg (by simp)]
            rw [f2, if_neg (by simp)] at hg; exact absurd hg (by decide)
          | true =>
            cases f3 : fitB (y1 * y2) with
            | false =>
              rw [if_neg (by simp)]
              rw [f3, if_neg (by simp)] at hg; exact absurd hg (by decide)
            | true =>
              rw [if_pos (by simp)]
              exact both_ok n1 n2 n3 n4 A1 A2 A3 A4 l1 l2 l3 l4 c1 c2 c3 c4 79 hF k1 k2 _ _ _ _ _ _ (vz_wOf (fitB_iff.1 f2)) (vz_wOf (fitB_iff.1 f3)) (Int.mul_ne_zero (by omega) (by omega)) (fun W a b c d => add1_ok n1 n2 n3 n4 A1 A2 A3 A4 l1 l2 l3 l4 c1 c2 c3 c4 x1 y1 x2 y2 h1 h2 h3 h4 (fitB_iff.1 f0) (fitB_iff.1 f1) (fitB_iff.1 f2) (fitB_iff.1 f3) W a b c d) w hs1 hs2 hs3 hs4

set_option maxRecDepth 100000 in
set_option maxHeartbeats 2000000 in
theorem fadd_of (n1 n2 n3 n4 : Bool) (A1 A2 A3 A4 : Option Addr) (l1 l2 l3 l4 : List Nat) (c1 c2 c3 c4 : Nat) (hB : ∀ W, Sl W A1 l1 c1 → Sl W A2 l2 c2 → Sl W A3 l3 c3 → Sl W A4 l4 c4 → Calls Try.prog 59 #[.agg #[.bool n1, .slice A1 l1.length c1, .bool n2, .slice A2 l2.length c2], .agg #[.bool n3, .slice A3 l3.length c3, .bool n4, .slice A4 l4.length c4], .func (.func 79) #[] #[]] W (FRes (bothF n1 l1 n2 l2 n3 l3 n4 l4 addV) W)) (w : World) (hs1 : Sl w A1 l1 c1) (hs2 : Sl w A2 l2 c2) (hs3 : Sl w A3 l3 c3) (hs4 : Sl w A4 l4 c4) :
    Calls Try.prog 62 #[.agg #[.bool n1, .slice A1 l1.length c1, .bool n2, .slice A2 l2.length c2], .agg #[.bool n3, .slice A3 l3.length c3, .bool n4, .slice A4 l4.length c4]] w (FRes (bothF n1 l1 n2 l2 n3 l3 n4 l4 addV) w) := by
  have S1 := Lib.hid hs1
  have S2 := Lib.hid hs2
  have S3 := Lib.hid hs3
  have S4 := Lib.hid hs4
  have B : Hid (Below w.heap.size w w) := Below.refl _ _
  obtain ⟨⟨⟨⟨np, lp⟩, ⟨nq, lq⟩⟩, k⟩, hr⟩ : ∃ r, r = bothF n1 l1 n2 l2 n3 l3 n4 l4 addV := ⟨_, rfl⟩
  have HB : Hid (∀ W, Sl W A1 l1 c1 → Sl W A2 l2 c2 → Sl W A3 l3 c3 → Sl W A4 l4 c4 → Calls Try.prog 59 #[.agg #[.bool n1, .slice A1 l1.length c1, .bool n2, .slice A2 l2.length c2], .agg #[.bool n3, .slice A3 l3.length c3, .bool n4, .slice A4 l4.length c4], .func (.func 79) #[] #[]] W (FRes (((np, lp), (nq, lq)), k) W)) := fun W a b c d => by rw [hr]; exact hB W a b c d
  rw [← hr]
  clear hr hB hs1 hs2 hs3 hs4
  go_enter Try.func62, Try.ntmps62
  go_wp2_with fail
  refine (HB.out _ (((S1.out.alloc _).alloc _).alloc _) (((S2.out.alloc _).alloc _).alloc _) (((S3.out.alloc _).alloc _).alloc _) (((S4.out.alloc _).alloc _).alloc _)).mono ?_
  rintro e w1 ⟨A5, c5, A6, c6, rfl, hsp, hsq, hb⟩
  replace S1 := kS3 S1 hb
  replace S2 := kS3 S2 hb
  replace S3 := kS3 S3 hb
  replace S4 := kS3 S4 hb
  have Fo : Hid (Ff w1 (w.heap.size + 1 + 1)) := Ff.keep (Ff.fresh (by simp) _ _) (Cf.fresh (by simp) _ _ _ _ _ _ _ _ _) hb
  have Ka : Hid (Cf w1 w.heap.size n1 A1 l1.length c1 n2 A2 l2.length c2) := Cf.keep (Cf.keep (Cf.keep (Cf.fresh (by simp) _ _ _ _ _ _ _ _ _) (blw1 _ _)) (blw1 _ _)) hb
  have Kb : Hid (Cf w1 (w.heap.size + 1) n3 A3 l3.length c3 n4 A4 l4.length c4) := Cf.keep (Cf.keep (Cf.fresh (by simp) _ _ _ _ _ _ _ _ _) (blw1 _ _)) hb
  have Ko : Hid (Cf w1 (w.heap.size + 1 + 1) false none 0 0 false none 0 0) := Cf.keep (Cf.fresh (by simp) _ _ _ _ _ _ _ _ _) hb
  replace B := kB3 B hb
  clear hb
  (try dsimp only at hsp hsq)
  (try dsimp only)
  have Sp : Hid (Sl w1 A5 lp c5) := hsp
  clear hsp
  have Sq : Hid (Sl w1 A6 lq c6) := hsq
  clear hsq
  obtain ⟨qo0, qo1, qo2, qo3⟩ := Ko.out
  obtain ⟨fo0, fo1, fo2, fo3⟩ := Fo.out
  have hza := lF Ka
  have hzb := lF Kb
  have hzo := lF Ko
  go_wp2_with fail
  exact bodyPost_ret (v := .tuple #[.agg #[.bool np, .slice A5 lp.length c5, .bool nq, .slice A6 lq.length c6], .int .i64 k]) (by simp [results, Try.results62, go_sem, qo0, qo1, qo2, qo3]) rfl (fres_store4 (r := ((np, lp), (nq, lq))) k Sp.out Sq.out Ko.out B.out (by omega) _ _ _ _)

theorem fadd_good (n1 n2 n3 n4 : Bool) (A1 A2 A3 A4 : Option Addr) (l1 l2 l3 l4 : List Nat) (c1 c2 c3 c4 : Nat) (hg : (bothF n1 l1 n2 l2 n3 l3 n4 l4 addV).2 = 0) (w : World) (hs1 : Sl w A1 l1 c1) (hs2 : Sl w A2 l2 c2) (hs3 : Sl w A3 l3 c3) (hs4 : Sl w A4 l4 c4) :
    Calls Try.prog 62 #[.agg #[.bool n1, .slice A1 l1.length c1, .bool n2, .slice A2 l2.length c2], .agg #[.bool n3, .slice A3 l3.length c3, .bool n4, .slice A4 l4.length c4]] w (FRes (bothF n1 l1 n2 l2 n3 l3 n4 l4 addV) w) :=
  fadd_of n1 n2 n3 n4 A1 A2 A3 A4 l1 l2 l3 l4 c1 c2 c3 c4 (fun W a b c d => add_bothG n1 n2 n3 n4 A1 A2 A3 A4 l1 l2 l3 l4 c1 c2 c3 c4 hg W a b c d) w hs1 hs2 hs3 hs4

set_option maxRecDepth 100000 in
set_option maxHeartbeats 2000000 in
theorem sub_bothG (n1 n2 n3 n4 : Bool) (A1 A2 A3 A4 : Option Addr) (l1 l2 l3 l4 : List Nat) (c1 c2 c3 c4 : Nat) (hg : (bothF n1 l1 n2 l2 n3 l3 n4 l4 subV).2 = 0) (w : World) (hs1 : Sl w A1 l1 c1) (hs2 : Sl w A2 l2 c2) (hs3 : Sl w A3 l3 c3) (hs4 : Sl w A4 l4 c4) :
    Calls Try.prog 59 #[.agg #[.bool n1, .slice A1 l1.length c1, .bool n2, .slice A2 l2.length c2], .agg #[.bool n3, .slice A3 l3.length c3, .bool n4, .slice A4 l4.length c4], .func (.func 81) #[] #[]] w (FRes (bothF n1 l1 n2 l2 n3 l3 n4 l4 subV) w) := by
  have hF : ∀ (args : Array Value) (W : World), (callFunc 81 args).run Try.prog W = .ok (.enter 81 args) W := fun _ _ => rfl
  cases hb1 : badF n1 l1 n2 l2 with
  | true =>
    have hr : bothF n1 l1 n2 l2 n3 l3 n4 l4 subV = (zF, 8) := by unfold bothF; rw [hb1]; rfl
    rw [hr]
    rw [hr] at hg; exact absurd hg (by decide)
  | false =>
    have k1 : chkF n1 l1 n2 l2 = 0 := by unfold chkF; rw [hb1]; rfl
    cases hb2 : badF n3 l3 n4 l4 with
    | true =>
      have hr : bothF n1 l1 n2 l2 n3 l3 n4 l4 subV = (zF, 8) := by unfold bothF; rw [hb1, hb2]; rfl
      rw [hr]
      rw [hr] at hg; exact absurd hg (by decide)
    | false =>
      have k2 : chkF n3 l3 n4 l4 = 0 := by unfold chkF; rw [hb2]; rfl
      have va := vf_of hs1.lim hs2.lim hb1
      have vb := vf_of hs3.lim hs4.lim hb2
      rw [both_good va vb] at hg ⊢
      obtain ⟨h1, h2, hp1, _⟩ := va
      obtain ⟨h3, h4, hp2, _⟩ := vb
      generalize zv n1 l1 = x1 at *
      generalize zv n2 l2 = y1 at *
      generalize zv n3 l3 = x2 at *
      generalize zv n4 l4 = y2 at *
      unfold subV at hg ⊢
      unfold outF at hg ⊢
      cases f0 : fitB (x1 * y2) with
      | false =>
        rw [if_neg (by simp)]
        rw [f0, if_neg (by simp)] at hg; exact absurd hg (by decide)
      | true =>
        cases f1 : fitB (x2 * y1) with
        | false =>
          rw [if_neg (by simp)]
          rw [f1, if_neg (by simp)] at hg; exact absurd hg (by decide)
        | true =>
          cases f2 : fitB (x1 * y2 - x2 * y1) with
          | false =>
            rw [if_neg (by simp)]
            rw [f2, if_neg (by simp)] at hg; exact absurd hg (by decide)
          | true =>
            cases f3 : fitB (y1 * y2) with
            | false =>
              rw [if_neg (by simp)]
              rw [f3, if_neg (by simp)] at hg; exact absurd hg (by decide)
            | true =>
              rw [if_pos (by simp)]
              exact both_ok n1 n2 n3 n4 A1 A2 A3 A4 l1 l2 l3 l4 c1 c2 c3 c4 81 hF k1 k2 _ _ _ _ _ _ (vz_wOf (fitB_iff.1 f2)) (vz_wOf (fitB_iff.1 f3)) (Int.mul_ne_zero (by omega) (by omega)) (fun W a b c d => sub1_ok n1 n2 n3 n4 A1 A2 A3 A4 l1 l2 l3 l4 c1 c2 c3 c4 x1 y1 x2 y2 h1 h2 h3 h4 (fitB_iff.1 f0) (fitB_iff.1 f1) (fitB_iff.1 f2) (fitB_iff.1 f3) W a b c d) w hs1 hs2 hs3 hs4

set_option maxRecDepth 100000 in
set_option maxHeartbeats 2000000 in
theorem fsub_of (n1 n2 n3 n4 : Bool) (A1 A2 A3 A4 : Option Addr) (l1 l2 l3 l4 : List Nat) (c1 c2 c3 c4 : Nat) (hB : ∀ W, Sl W A1 l1 c1 → Sl W A2 l2 c2 → Sl W A3 l3 c3 → Sl W A4 l4 c4 → Calls Try.prog 59 #[.agg #[.bool n1, .slice A1 l1.length c1, .bool n2, .slice A2 l2.length c2], .agg #[.bool n3, .slice A3 l3.length c3, .bool n4, .slice A4 l4.length c4], .func (.func 81) #[] #[]] W (FRes (bothF n1 l1 n2 l2 n3 l3 n4 l4 subV) W)) (w : World) (hs1 : Sl w A1 l1 c1) (hs2 : Sl w A2 l2 c2) (hs3 : Sl w A3 l3 c3) (hs4 : Sl w A4 l4 c4) :
    Calls Try.prog 63 #[.agg #[.bool n1, .slice A1 l1.length c1, .bool n2, .slice A2 l2.length c2], .agg #[.bool n3, .slice A3 l3.length c3, .bool n4, .slice A4 l4.length c4]] w (FRes (bothF n1 l1 n2 l2 n3 l3 n4 l4 subV) w) := by
  have S1 := Lib.hid hs1
  have S2 := Lib.hid hs2
  have S3 := Lib.hid hs3
  have S4 := Lib.hid hs4
  have B : Hid (Below w.heap.size w w) := Below.refl _ _
  obtain ⟨⟨⟨⟨np, lp⟩, ⟨nq, lq⟩⟩, k⟩, hr⟩ : ∃ r, r = bothF n1 l1 n2 l2 n3 l3 n4 l4 subV := ⟨_, rfl⟩
  have HB : Hid (∀ W, Sl W A1 l1 c1 → Sl W A2 l2 c2 → Sl W A3 l3 c3 → Sl W A4 l4 c4 → Calls Try.prog 59 #[.agg #[.bool n1, .slice A1 l1.length c1, .bool n2, .slice A2 l2.length c2], .agg #[.bool n3, .slice A3 l3.length c3, .bool n4, .slice A4 l4.length c4], .func (.func 81) #[] #[]] W (FRes (((np, lp), (nq, lq)), k) W)) := fun W a b c d => by rw [hr]; exact hB W a b c d
  rw [← hr]
  clear hr hB hs1 hs2 hs3 hs4
  go_enter Try.func63, Try.ntmps63
  go_wp2_with fail
  refine (HB.out _ (((S1.out.alloc _).alloc _).alloc _) (((S2.out.alloc _).alloc _).alloc _) (((S3.out.alloc _).alloc _).alloc _) (((S4.out.alloc _).alloc _).alloc _)).mono ?_
  rintro e w1 ⟨A5, c5, A6, c6, rfl, hsp, hsq, hb⟩
  replace S1 := kS3 S1 hb
  replace S2 := kS3 S2 hb
  replace S3 := kS3 S3 hb
  replace S4 := kS3 S4 hb
  have Fo : Hid (Ff w1 (w.heap.size + 1 + 1)) := Ff.keep (Ff.fresh (by simp) _ _) (Cf.fresh (by simp) _ _ _ _ _ _ _ _ _) hb
  have Ka : Hid (Cf w1 w.heap.size n1 A1 l1.length c1 n2 A2 l2.length c2) := Cf.keep (Cf.keep (Cf.keep (Cf.fresh (by simp) _ _ _ _ _ _ _ _ _) (blw1 _ _)) (blw1 _ _)) hb
  have Kb : Hid (Cf w1 (w.heap.size + 1) n3 A3 l3.length c3 n4 A4 l4.length c4) := Cf.keep (Cf.keep (Cf.fresh (by simp) _ _ _ _ _ _ _ _ _) (blw1 _ _)) hb
  have Ko : Hid (Cf w1 (w.heap.size + 1 + 1) false none 0 0 false none 0 0) := Cf.keep (Cf.fresh (by simp) _ _ _ _ _ _ _ _ _) hb
  replace B := kB3 B hb
  clear hb
  (try dsimp only at hsp hsq)
  (try dsimp only)
  have Sp : Hid (Sl w1 A5 lp c5) := hsp
  clear hsp
  have Sq : Hid (Sl w1 A6 lq c6) := hsq
  clear hsq
  obtain ⟨qo0, qo1, qo2, qo3⟩ := Ko.out
  obtain ⟨fo0, fo1, fo2, fo3⟩ := Fo.out
  have hza := lF Ka
  have hzb := lF Kb
  have hzo := lF Ko
  go_wp2_with fail
  exact bodyPost_ret (v := .tuple #[.agg #[.bool np, .slice A5 lp.length c5, .bool nq, .slice A6 lq.length c6], .int .i64 k]) (by simp [results, Try.results63, go_sem, qo0, qo1, qo2, qo3]) rfl (fres_store4 (r := ((np, lp), (nq, lq))) k Sp.out Sq.out Ko.out B.out (by omega) _ _ _ _)

theorem fsub_good (n1 n2 n3 n4 : Bool) (A1 A2 A3 A4 : Option Addr) (l1 l2 l3 l4 : List Nat) (c1 c2 c3 c4 : Nat) (hg : (bothF n1 l1 n2 l2 n3 l3 n4 l4 subV).2 = 0) (w : World) (hs1 : Sl w A1 l1 c1) (hs2 : Sl w A2 l2 c2) (hs3 : Sl w A3 l3 c3) (hs4 : Sl w A4 l4 c4) :
    Calls Try.prog 63 #[.agg #[.bool n1, .slice A1 l1.length c1, .bool n2, .slice A2 l2.length c2], .agg #[.bool n3, .slice A3 l3.length c3, .bool n4, .slice A4 l4.length c4]] w (FRes (bothF n1 l1 n2 l2 n3 l3 n4 l4 subV) w) :=
  fsub_of n1 n2 n3 n4 A1 A2 A3 A4 l1 l2 l3 l4 c1 c2 c3 c4 (fun W a b c d => sub_bothG n1 n2 n3 n4 A1 A2 A3 A4 l1 l2 l3 l4 c1 c2 c3 c4 hg W a b c d) w hs1 hs2 hs3 hs4

set_option maxRecDepth 100000 in
set_option maxHeartbeats 2000000 in
theorem mul_bothG (n1 n2 n3 n4 : Bool) (A1 A2 A3 A4 : Option Addr) (l1 l2 l3 l4 : List Nat) (c1 c2 c3 c4 : Nat) (hg : (bothF n1 l1 n2 l2 n3 l3 n4 l4 mulV).2 = 0) (w : World) (hs1 : Sl w A1 l1 c1) (hs2 : Sl w A2 l2 c2) (hs3 : Sl w A3 l3 c3) (hs4 : Sl w A4 l4 c4) :
    Calls Try.prog 59 #[.agg #[.bool n1, .slice A1 l1.length c1, .bool n2, .slice A2 l2.length c2], .agg #[.bool n3, .slice A3 l3.length c3, .bool n4, .slice A4 l4.length c4], .func (.func 60) #[] #[]] w (FRes (bothF n1 l1 n2 l2 n3 l3 n4 l4 mulV) w) := by
  have hF : ∀ (args : Array Value) (W : World), (callFunc 60 args).run Try.prog W = .ok (.enter 60 args) W := fun _ _ => rfl
  cases hb1 : badF n1 l1 n2 l2 with
  | true =>
    have hr : bothF n1 l1 n2 l2 n3 l3 n4 l4 mulV = (zF, 8) := by unfold bothF; rw [hb1]; rfl
    rw [hr]
    rw [hr] at hg; exact absurd hg (by decide)
  | false =>
    have k1 : chkF n1 l1 n2 l2 = 0 := by unfold chkF; rw [hb1]; rfl
    cases hb2 : badF n3 l3 n4 l4 with
    | true =>
      have hr : bothF n1 l1 n2 l2 n3 l3 n4 l4 mulV = (zF, 8) := by unfold bothF; rw [hb1, hb2]; rfl
      rw [hr]
      rw [hr] at hg; exact absurd hg (by decide)
    | false =>
      have k2 : chkF n3 l3 n4 l4 = 0 := by unfold chkF; rw [hb2]; rfl
      have va := vf_of hs1.lim hs2.lim hb1
      have vb := vf_of hs3.lim hs4.lim hb2
      rw [both_good va vb] at hg ⊢
      obtain ⟨h1, h2, hp1, _⟩ := va
      obtain ⟨h3, h4, hp2, _⟩ := vb
      generalize zv n1 l1 = x1 at *
      generalize zv n2 l2 = y1 at *
      generalize zv n3 l3 = x2 at *
      generalize zv n4 l4 = y2 at *
      unfold mulV at hg ⊢
      unfold outF at hg ⊢
      cases f0 : fitB (x1 * x2) with
      | false =>
        rw [if_neg (by simp)]
        rw [f0, if_neg (by simp)] at hg; exact absurd hg (by decide)
      | true =>
        cases f1 : fitB (y1 * y2) with
        | false =>
          rw [if_neg (by simp)]
          rw [f1, if_neg (by simp)] at hg; exact absurd hg (by decide)
        | true =>
          rw [if_pos (by simp)]
          exact both_ok n1 n2 n3 n4 A1 A2 A3 A4 l1 l2 l3 l4 c1 c2 c3 c4 60 hF k1 k2 _ _ _ _ _ _ (vz_wOf (fitB_iff.1 f0)) (vz_wOf (fitB_iff.1 f1)) (Int.mul_ne_zero (by omega) (by omega)) (fun W a b c d => mul1_ok n1 n2 n3 n4 A1 A2 A3 A4 l1 l2 l3 l4 c1 c2 c3 c4 x1 y1 x2 y2 h1 h2 h3 h4 (fitB_iff.1 f0) (fitB_iff.1 f1) W a b c d) w hs1 hs2 hs3 hs4

set_option maxRecDepth 100000 in
set_option maxHeartbeats 2000000 in
theorem fmul_of (n1 n2 n3 n4 : Bool) (A1 A2 A3 A4 : Option Addr) (l1 l2 l3 l4 : List Nat) (c1 c2 c3 c4 : Nat) (hB : ∀ W, Sl W A1 l1 c1 → Sl W A2 l2 c2 → Sl W A3 l3 c3 → Sl W A4 l4 c4 → Calls Try.prog 59 #[.agg #[.bool n1, .slice A1 l1.length c1, .bool n2, .slice A2 l2.length c2], .agg #[.bool n3, .slice A3 l3.length c3, .bool n4, .slice A4 l4.length c4], .func (.func 60) #[] #[]] W (FRes (bothF n1 l1 n2 l2 n3 l3 n4 l4 mulV) W)) (w : World) (hs1 : Sl w A1 l1 c1) (hs2 : Sl w A2 l2 c2) (hs3 : Sl w A3 l3 c3) (hs4 : Sl w A4 l4 c4) :
    Calls Try.prog 34 #[.agg #[.bool n1, .slice A1 l1.length c1, .bool n2, .slice A2 l2.length c2], .agg #[.bool n3, .slice A3 l3.length c3, .bool n4, .slice A4 l4.length c4]] w (FRes (bothF n1 l1 n2 l2 n3 l3 n4 l4 mulV) w) := by
  have S1 := Lib.hid hs1
  have S2 := Lib.hid hs2
  have S3 := Lib.hid hs3
  have S4 := Lib.hid hs4
  have B : Hid (Below w.heap.size w w) := Below.refl _ _
  obtain ⟨⟨⟨⟨np, lp⟩, ⟨nq, lq⟩⟩, k⟩, hr⟩ : ∃ r, r = bothF n1 l1 n2 l2 n3 l3 n4 l4 mulV := ⟨_, rfl⟩
  have HB : Hid (∀ W, Sl W A1 l1 c1 → Sl W A2 l2 c2 → Sl W A3 l3 c3 → Sl W A4 l4 c4 → Calls Try.prog 59 #[.agg #[.bool n1, .slice A1 l1.length c1, .bool n2, .slice A2 l2.length c2], .agg #[.bool n3, .slice A3 l3.length c3, .bool n4, .slice A4 l4.length c4], .func (.func 60) #[] #[]] W (FRes (((np, lp), (nq, lq)), k) W)) := fun W a b c d => by rw [hr]; exact hB W a b c d
  rw [← hr]
  clear hr hB hs1 hs2 hs3 hs4
  go_enter Try.func34, Try.ntmps34
  go_wp2_with fail
  refine (HB.out _ (((S1.out.alloc _).alloc _).alloc _) (((S2.out.alloc _).alloc _).alloc _) (((S3.out.alloc _).alloc _).alloc _) (((S4.out.alloc _).alloc _).alloc _)).mono ?_
  rintro e w1 ⟨A5, c5, A6, c6, rfl, hsp, hsq, hb⟩
  replace S1 := kS3 S1 hb
  replace S2 := kS3 S2 hb
  replace S3 := kS3 S3 hb
  replace S4 := kS3 S4 hb
  have Fo : Hid (Ff w1 (w.heap.size + 1 + 1)) := Ff.keep (Ff.fresh (by simp) _ _) (Cf.fresh (by simp) _ _ _ _ _ _ _ _ _) hb
  have Ka : Hid (Cf w1 w.heap.size n1 A1 l1.length c1 n2 A2 l2.length c2) := Cf.keep (Cf.keep (Cf.keep (Cf.fresh (by simp) _ _ _ _ _ _ _ _ _) (blw1 _ _)) (blw1 _ _)) hb
  have Kb : Hid (Cf w1 (w.heap.size + 1) n3 A3 l3.length c3 n4 A4 l4.length c4) := Cf.keep (Cf.keep (Cf.fresh (by simp) _ _ _ _ _ _ _ _ _) (blw1 _ _)) hb
  have Ko : Hid (Cf w1 (w.heap.size + 1 + 1) false none 0 0 false none 0 0) := Cf.keep (Cf.fresh (by simp) _ _ _ _ _ _ _ _ _) hb
  replace B := kB3 B hb
  clear hb
  (try dsimp only at hsp hsq)
  (try dsimp only)
  have Sp : Hid (Sl w1 A5 lp c5) := hsp
  clear hsp
  have Sq : Hid (Sl w1 A6 lq c6) := hsq
  clear hsq
  obtain ⟨qo0, qo1, qo2, qo3⟩ := Ko.out
  obtain ⟨fo0, fo1, fo2, fo3⟩ := Fo.out
  have hza := lF Ka
  have hzb := lF Kb
  have hzo := lF Ko
  go_wp2_with fail
  exact bodyPost_ret (v := .tuple #[.agg #[.bool np, .slice A5 lp.length c5, .bool nq, .slice A6 lq.length c6], .int .i64 k]) (by simp [results, Try.results34, go_sem, qo0, qo1, qo2, qo3]) rfl (fres_store4 (r := ((np, lp), (nq, lq))) k Sp.out Sq.out Ko.out B.out (by omega) _ _ _ _)

theorem fmul_good (n1 n2 n3 n4 : Bool) (A1 A2 A3 A4 : Option Addr) (l1 l2 l3 l4 : List Nat) (c1 c2 c3 c4 : Nat) (hg : (bothF n1 l1 n2 l2 n3 l3 n4 l4 mulV).2 = 0) (w : World) (hs1 : Sl w A1 l1 c1) (hs2 : Sl w A2 l2 c2) (hs3 : Sl w A3 l3 c3) (hs4 : Sl w A4 l4 c4) :
    Calls Try.prog 34 #[.agg #[.bool n1, .slice A1 l1.length c1, .bool n2, .slice A2 l2.length c2], .agg #[.bool n3, .slice A3 l3.length c3, .bool n4, .slice A4 l4.length c4]] w (FRes (bothF n1 l1 n2 l2 n3 l3 n4 l4 mulV) w) :=
  fmul_of n1 n2 n3 n4 A1 A2 A3 A4 l1 l2 l3 l4 c1 c2 c3 c4 (fun W a b c d => mul_bothG n1 n2 n3 n4 A1 A2 A3 A4 l1 l2 l3 l4 c1 c2 c3 c4 hg W a b c d) w hs1 hs2 hs3 hs4

end Go.Proofs.Ytghallnooijfhaa

namespace Go.Proofs.Ytghallnooijfhaa
open Go.RowKit
attribute [local go_sem ↓] Go.wp_at_zero Go.wp_at_succ
theorem FRes.alloc {r : ((Bool × List Nat) × (Bool × List Nat)) × Int} {w w' : World} {e : Ending} (h : FRes r w e w') (o : Obj) : FRes r w e (w'.alloc o) := by
  obtain ⟨A, c, A', c', rfl, h1, h2, hb⟩ := h
  exact ⟨A, c, A', c', rfl, h1.alloc o, h2.alloc o, below_mono hb (blw1 _ _)⟩

end Go.Proofs.Ytghallnooijfhaa
/- Walks: the reference's both, added, product, Add, Sub, Mul, Div. -/
namespace Go.Proofs.Ytghallnooijfhaa
open Go.RowKit
attribute [local go_sem ↓] Go.wp_at_zero Go.wp_at_succ
end Go.Proofs.Ytghallnooijfhaa
/- Walks: the reference's both, added, product, Add, Sub, Mul, Div. -/
namespace Go.Proofs.Ytghallnooijfhaa
open Go.RowKit
attribute [local go_sem ↓] Go.wp_at_zero Go.wp_at_succ
end Go.Proofs.Ytghallnooijfhaa

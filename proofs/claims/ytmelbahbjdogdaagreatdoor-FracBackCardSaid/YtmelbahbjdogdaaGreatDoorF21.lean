/- Walk: frac.Parse. -/
import Derived.Test.YtmelbahbjdogdaaGreatDoorF18
namespace Go.Proofs.YtmelbahbjdogdaaGreatDoor
open Go.RowKit Go.Shelf Go.Lib
attribute [local go_sem ↓] Go.wp_at_zero Go.wp_at_succ
set_option maxRecDepth 100000 in
set_option maxHeartbeats 2000000 in
theorem parse_long (l : List UInt8) (hl : l.length ≤ 3000) (h : 200 < l.length) (w : World) :
    Calls Tryz.prog 10 #[.string ⟨l.toArray⟩] w (FRes (zF, 12) w) := by
  have B : Hid (Below w.heap.size w w) := Below.refl _ _
  have d0 : decide (l.length ≤ 200) = false := decide_eq_false (by omega)
  have d1 : decide ((l.length : Int) ≤ 200) = false := decide_eq_false (by omega)
  go_enter_defers Tryz.func10, Tryz.ntmps10
  go_wp2_with fail
  refine (form_bad _).mono ?_
  rintro e w1 ⟨rfl, hb⟩
  have Fo : Hid (Ff w1 w.heap.size) := Ff.keep (Ff.keep (Ff.fresh (by simp) _ _) (Cf.fresh (by simp) _ _ _ _ _ _ _ _ _) (blw1 _ _)) (Cf.keep (Cf.fresh (by simp) _ _ _ _ _ _ _ _ _) (blw1 _ _)) hb
  have Ko : Hid (Cf w1 w.heap.size false none 0 0 false none 0 0) := Cf.keep (Cf.keep (Cf.fresh (by simp) _ _ _ _ _ _ _ _ _) (blw1 _ _)) hb
  have Ke : Hid (C1 w1 (w.heap.size + 1) (.int .i64 0)) := C1.keep (C1.fresh (by simp) _ _) hb
  replace B := kB2 B hb
  clear hb
  go_wp2_with fail
  refine leaves_cons (f := 46) (args := #[.pointer (some ⟨w.heap.size + 1, 0, none⟩)]) (by simp) (by simp [go_sem]) ?_
  refine (catch_fall (w.heap.size + 1) 0 12 [] _ Ke.out).mono ?_
  rintro e u' w'' ⟨rfl, rfl, ob, rfl⟩
  obtain ⟨qo0, qo1, qo2, qo3⟩ := Ko.out
  obtain ⟨fo0, fo1, fo2, fo3⟩ := Fo.out
  have hze2 : w.heap.size < w1.heap.size := lt_of_cell (a := ⟨w.heap.size, 0, none⟩) qo0
  have hze3 := lC Ke
  simp [Leaves, settle, results, Tryz.results10, go_sem, qo0, qo1, qo2, qo3, hze2, hze3, Ke.out.1]
  exact fres_fall 12 B.out (by omega) _ _

set_option maxRecDepth 100000 in
set_option maxHeartbeats 2000000 in
theorem parse_nohead (l : List UInt8) (h : l.length ≤ 200) (hh : headD (trimPrefix l [45]) = []) (w : World) :
    Calls Tryz.prog 10 #[.string ⟨l.toArray⟩] w (FRes (zF, 12) w) := by
  have B : Hid (Below w.heap.size w w) := Below.refl _ _
  have d0 : decide (l.length ≤ 200) = true := decide_eq_true h
  have d1 : decide ((l.length : Int) ≤ 200) = true := decide_eq_true (by omega)
  have hl : l.length ≤ 3000 := by omega
  have hC1 : Hid (∀ W, Calls Tryz.prog 48 #[.string ⟨(l : List UInt8).toArray⟩, .string ⟨#[45]⟩] W fun e w' => e = .returned (.tuple #[.string ⟨(trimPrefix l [45] : List UInt8).toArray⟩, .bool (hasPrefix l [45])]) ∧ W = w') := fun W => cut_any l [45] W
  have hD1 : Hid (∀ W, Calls Tryz.prog 49 #[.string ⟨(trimPrefix l [45] : List UInt8).toArray⟩] W fun e w' => e = .returned (.tuple #[.string ⟨([] : List UInt8).toArray⟩, .string ⟨(tailD (trimPrefix l [45]) : List UInt8).toArray⟩]) ∧ Below W.heap.size W w') := fun W => by
    have := digits_any (trimPrefix l [45]) (Nat.le_trans (trimP_len _ _) (by omega)) W
    rw [hh] at this
    exact this
  generalize tailD (trimPrefix l [45]) = q at *
  generalize trimPrefix l [45] = r at *
  generalize hasPrefix l [45] = m at *
  clear hh h
  go_enter_defers Tryz.func10, Tryz.ntmps10
  go_wp2_with fail
  refine (form_ok _).mono ?_
  rintro e w1 ⟨rfl, hb⟩
  have Fo : Hid (Ff w1 w.heap.size) := Ff.keep (Ff.keep (Ff.fresh (by simp) _ _) (Cf.fresh (by simp) _ _ _ _ _ _ _ _ _) (blw1 _ _)) (Cf.keep (Cf.fresh (by simp) _ _ _ _ _ _ _ _ _) (blw1 _ _)) hb
  have Ko : Hid (Cf w1 w.heap.size false none 0 0 false none 0 0) := Cf.keep (Cf.keep (Cf.fresh (by simp) _ _ _ _ _ _ _ _ _) (blw1 _ _)) hb
  have Ke : Hid (C1 w1 (w.heap.size + 1) (.int .i64 0)) := C1.keep (C1.fresh (by simp) _ _) hb
  replace B := kB2 B hb
  clear hb
  have hzo := lF Ko
  have hze := lC Ke
  go_wp2_with fail
  refine (hC1.out _).mono ?_
  rintro e w' ⟨rfl, rfl⟩
  go_wp2_with fail
  refine (hD1.out _).mono ?_
  rintro e w2 ⟨rfl, hb⟩
  replace Fo := kFf Fo Ko hb
  replace Ko := kF Ko hb
  replace Ke := kC Ke hb
  replace B := kB B hb
  clear hb
  replace hzo := lF Ko
  replace hze := lC Ke
  go_wp2_with fail
  refine (form_bad _).mono ?_
  rintro e w3 ⟨rfl, hb⟩
  replace Fo := kFf Fo Ko hb
  replace Ko := kF Ko hb
  replace Ke := kC Ke hb
  replace B := kB B hb
  clear hb
  go_wp2_with fail
  refine leaves_cons (f := 46) (args := #[.pointer (some ⟨w.heap.size + 1, 0, none⟩)]) (by simp) (by simp [go_sem]) ?_
  refine (catch_fall (w.heap.size + 1) 0 12 [] _ Ke.out).mono ?_
  rintro e u' w'' ⟨rfl, rfl, ob, rfl⟩
  obtain ⟨qo0, qo1, qo2, qo3⟩ := Ko.out
  obtain ⟨fo0, fo1, fo2, fo3⟩ := Fo.out
  have hze2 : w.heap.size < w3.heap.size := lt_of_cell (a := ⟨w.heap.size, 0, none⟩) qo0
  have hze3 := lC Ke
  simp [Leaves, settle, results, Tryz.results10, go_sem, qo0, qo1, qo2, qo3, hze2, hze3, Ke.out.1]
  exact fres_fall 12 B.out (by omega) _ _

set_option maxRecDepth 100000 in
set_option maxHeartbeats 2000000 in
theorem parse_slash0 (l : List UInt8) (h : l.length ≤ 200) (m : Bool) (r q t : List UInt8) (b : UInt8) (hm : hasPrefix l [45] = m) (hr : trimPrefix l [45] = r) (hh : headD r = b :: t) (hq : tailD r = q) (q2 : List UInt8) (hp2 : hasPrefix q [47] = true) (hq2 : trimPrefix q [47] = q2) (hd : headD q2 = []) (w : World) :
    Calls Tryz.prog 10 #[.string ⟨l.toArray⟩] w (FRes (zF, 12) w) := by
  have B : Hid (Below w.heap.size w w) := Below.refl _ _
  have d0 : decide (l.length ≤ 200) = true := decide_eq_true h
  have d1 : decide ((l.length : Int) ≤ 200) = true := decide_eq_true (by omega)
  have hl : l.length ≤ 3000 := by omega
  have hlr : r.length ≤ 200 := by rw [← hr]; exact Nat.le_trans (trimP_len _ _) h
  have hdh : Dig (b :: t) := hh ▸ headD_dig r
  have hll : (b :: t).length + q.length ≤ 200 := by rw [← hh, ← hq, headD_len]; exact hlr
  obtain ⟨⟨nh, lh⟩, hvh⟩ : ∃ p, p = wOf ((dv (b :: t) : Nat) : Int) := ⟨_, rfl⟩
  obtain ⟨⟨no, lo⟩, hvo⟩ : ∃ p, p = wOf (1 : Int) := ⟨_, rfl⟩
  have vo : VZ no lo 1 := vz_mk hvo fit_one
  have hC1 : Hid (∀ W, Calls Tryz.prog 48 #[.string ⟨(l : List UInt8).toArray⟩, .string ⟨#[45]⟩] W fun e w' => e = .returned (.tuple #[.string ⟨(r : List UInt8).toArray⟩, .bool m]) ∧ W = w') := fun W => by rw [← hr, ← hm]; exact cut_any l [45] W
  have hD1 : Hid (∀ W, Calls Tryz.prog 49 #[.string ⟨(r : List UInt8).toArray⟩] W fun e w' => e = .returned (.tuple #[.string ⟨(b :: t : List UInt8).toArray⟩, .string ⟨(q : List UInt8).toArray⟩]) ∧ Below W.heap.size W w') := fun W => by rw [← hh, ← hq]; exact digits_any r (by omega) W
  have hV1 : Hid (∀ s W, s = (ByteArray.mk (b :: t : List UInt8).toArray) → Calls Tryz.prog 50 #[.string s] W (WRes1 (nh, lh) W)) := fun s W hs => by rw [hs, hvh]; exact value_any _ hdh (by omega) W
  have hO : Hid (∀ W, Calls Tryz.prog 51 #[] W (WRes1 (no, lo) W)) := fun W => by rw [hvo]; exact one_any W
  have hC2 : Hid (∀ W, Calls Tryz.prog 48 #[.string ⟨(q : List UInt8).toArray⟩, .string ⟨#[47]⟩] W fun e w' => e = .returned (.tuple #[.string ⟨(q2 : List UInt8).toArray⟩, .bool true]) ∧ W = w') := fun W => by rw [← hp2, ← hq2]; exact cut_any q [47] W
  have hlq : q2.length ≤ 200 := by rw [← hq2]; exact Nat.le_trans (trimP_len _ _) (by omega)
  have hD2 : Hid (∀ W, Calls Tryz.prog 49 #[.string ⟨(q2 : List UInt8).toArray⟩] W fun e w' => e = .returned (.tuple #[.string ⟨([] : List UInt8).toArray⟩, .string ⟨(tailD q2 : List UInt8).toArray⟩]) ∧ Below W.heap.size W w') := fun W => by have := digits_any q2 (by omega) W; rw [hd] at this; exact this
  generalize tailD q2 = x at *
  clear hm hr hh hq hvh hvo hlr h hl hp2 hq2 hd hlq hll hdh vo
  go_enter_defers Tryz.func10, Tryz.ntmps10
  go_wp2_with fail
  refine (form_ok _).mono ?_
  rintro e w1 ⟨rfl, hb⟩
  have Fo : Hid (Ff w1 w.heap.size) := Ff.keep (Ff.keep (Ff.fresh (by simp) _ _) (Cf.fresh (by simp) _ _ _ _ _ _ _ _ _) (blw1 _ _)) (Cf.keep (Cf.fresh (by simp) _ _ _ _ _ _ _ _ _) (blw1 _ _)) hb
  have Ko : Hid (Cf w1 w.heap.size false none 0 0 false none 0 0) := Cf.keep (Cf.keep (Cf.fresh (by simp) _ _ _ _ _ _ _ _ _) (blw1 _ _)) hb
  have Ke : Hid (C1 w1 (w.heap.size + 1) (.int .i64 0)) := C1.keep (C1.fresh (by simp) _ _) hb
  replace B := kB2 B hb
  clear hb
  have hzo := lF Ko
  have hze := lC Ke
  go_wp2_with fail
  refine (hC1.out _).mono ?_
  rintro e w' ⟨rfl, rfl⟩
  go_wp2_with fail
  refine (hD1.out _).mono ?_
  rintro e w2 ⟨rfl, hb⟩
  replace Fo := kFf Fo Ko hb
  replace Ko := kF Ko hb
  replace Ke := kC Ke hb
  replace B := kB B hb
  clear hb
  replace hzo := lF Ko
  replace hze := lC Ke
  go_wp2_with fail
  refine (form_ok _).mono ?_
  rintro e w3 ⟨rfl, hb⟩
  replace Fo := kFf Fo Ko hb
  replace Ko := kF Ko hb
  replace Ke := kC Ke hb
  replace B := kB B hb
  clear hb
  replace hzo := lF Ko
  replace hze := lC Ke
  go_wp2_with fail
  refine (hV1.out _ _ rfl).mono ?_
  rintro e w4 ⟨A1, c1, rfl, hs1, hb⟩
  replace Fo := kFf Fo Ko hb
  replace Ko := kF Ko hb
  replace Ke := kC Ke hb
  replace B := kB B hb
  clear hb
  (try dsimp only at hs1)
  (try dsimp only)
  have Sq : Hid (Sl w4 A1 lh c1) := hs1
  clear hs1
  replace hzo := lF Ko
  replace hze := lC Ke
  go_wp2_with fail
  refine (hO.out _).mono ?_
  rintro e w5 ⟨A2, c2, rfl, hs2, hb⟩
  replace Sq := kS Sq hb
  replace Fo := kFf Fo Ko hb
  replace Ko := kF Ko hb
  replace Ke := kC Ke hb
  replace B := kB B hb
  clear hb
  (try dsimp only at hs2)
  (try dsimp only)
  have Sd : Hid (Sl w5 A2 lo c2) := hs2
  clear hs2
  replace hzo := lF Ko
  replace hze := lC Ke
  have hkoq := hzo
  have hkeq := hze
  have hkod := hzo
  have hked := hze
  go_wp2_with fail
  refine (hC2.out _).mono ?_
  rintro e w' ⟨rfl, rfl⟩
  go_wp2_with fail
  refine (hD2.out _).mono ?_
  rintro e w6 ⟨rfl, hb⟩
  replace Sq := kS2 Sq hb
  replace Sd := kS2 Sd hb
  replace Fo := kFf2 Fo Ko hb
  have Fq : Hid (Fw w6 w5.heap.size) := Fw.keep (Fw.keep (Fw.fresh (by simp) _ _) (Cw.fresh (by simp) _ _ _ _ _) (blw1 _ _)) (Cw.keep (Cw.fresh (by simp) _ _ _ _ _) (blw1 _ _)) hb
  have Fd : Hid (Fw w6 (w5.heap.size + 1)) := Fw.keep (Fw.fresh (by simp) _ _) (Cw.fresh (by simp) _ _ _ _ _) hb
  replace Ko := kF2 Ko hb
  replace Ke := kC2 Ke hb
  have Kq : Hid (Cw w6 w5.heap.size nh A1 lh.length c1) := Cw.keep (Cw.keep (Cw.fresh (by simp) _ _ _ _ _) (blw1 _ _)) hb
  have Kd : Hid (Cw w6 (w5.heap.size + 1) no A2 lo.length c2) := Cw.keep (Cw.fresh (by simp) _ _ _ _ _) hb
  replace B := kB2 B hb
  clear hb
  replace hzo := lF Ko
  replace hze := lC Ke
  have hzq := lW Kq
  have hzd := lW Kd
  go_wp2_with fail
  refine (form_bad _).mono ?_
  rintro e w7 ⟨rfl, hb⟩
  replace Sq := kS Sq hb
  replace Sd := kS Sd hb
  replace Fo := kFf Fo Ko hb
  replace Fq := kFw Fq Kq hb
  replace Fd := kFw Fd Kd hb
  replace Ko := kF Ko hb
  replace Ke := kC Ke hb
  replace Kq := kW Kq hb
  replace Kd := kW Kd hb
  replace B := kB B hb
  clear hb
  go_wp2_with fail
  refine leaves_cons (f := 46) (args := #[.pointer (some ⟨w.heap.size + 1, 0, none⟩)]) (by simp) (by simp [go_sem]) ?_
  refine (catch_fall (w.heap.size + 1) 0 12 [] _ Ke.out).mono ?_
  rintro e u' w'' ⟨rfl, rfl, ob, rfl⟩
  obtain ⟨qo0, qo1, qo2, qo3⟩ := Ko.out
  obtain ⟨fo0, fo1, fo2, fo3⟩ := Fo.out
  have hze2 : w.heap.size < w7.heap.size := lt_of_cell (a := ⟨w.heap.size, 0, none⟩) qo0
  have hze3 := lC Ke
  simp [Leaves, settle, results, Tryz.results10, go_sem, qo0, qo1, qo2, qo3, hze2, hze3, Ke.out.1]
  exact fres_fall 12 B.out (by omega) _ _

set_option maxRecDepth 100000 in
set_option maxHeartbeats 2000000 in
theorem parse_slash1 (l : List UInt8) (h : l.length ≤ 200) (m : Bool) (r q t : List UInt8) (b : UInt8) (hm : hasPrefix l [45] = m) (hr : trimPrefix l [45] = r) (hh : headD r = b :: t) (hq : tailD r = q) (q2 : List UInt8) (hp2 : hasPrefix q [47] = true) (hq2 : trimPrefix q [47] = q2) (x y : UInt8) (xs ys : List UInt8) (hd : headD q2 = x :: xs) (he : tailD q2 = y :: ys) (w : World) :
    Calls Tryz.prog 10 #[.string ⟨l.toArray⟩] w (FRes (zF, 12) w) := by
  have B : Hid (Below w.heap.size w w) := Below.refl _ _
  have d0 : decide (l.length ≤ 200) = true := decide_eq_true h
  have d1 : decide ((l.length : Int) ≤ 200) = true := decide_eq_true (by omega)
  have hl : l.length ≤ 3000 := by omega
  have hlr : r.length ≤ 200 := by rw [← hr]; exact Nat.le_trans (trimP_len _ _) h
  have hdh : Dig (b :: t) := hh ▸ headD_dig r
  have hll : (b :: t).length + q.length ≤ 200 := by rw [← hh, ← hq, headD_len]; exact hlr
  obtain ⟨⟨nh, lh⟩, hvh⟩ : ∃ p, p = wOf ((dv (b :: t) : Nat) : Int) := ⟨_, rfl⟩
  obtain ⟨⟨no, lo⟩, hvo⟩ : ∃ p, p = wOf (1 : Int) := ⟨_, rfl⟩
  have vo : VZ no lo 1 := vz_mk hvo fit_one
  have hC1 : Hid (∀ W, Calls Tryz.prog 48 #[.string ⟨(l : List UInt8).toArray⟩, .string ⟨#[45]⟩] W fun e w' => e = .returned (.tuple #[.string ⟨(r : List UInt8).toArray⟩, .bool m]) ∧ W = w') := fun W => by rw [← hr, ← hm]; exact cut_any l [45] W
  have hD1 : Hid (∀ W, Calls Tryz.prog 49 #[.string ⟨(r : List UInt8).toArray⟩] W fun e w' => e = .returned (.tuple #[.string ⟨(b :: t : List UInt8).toArray⟩, .string ⟨(q : List UInt8).toArray⟩]) ∧ Below W.heap.size W w') := fun W => by rw [← hh, ← hq]; exact digits_any r (by omega) W
  have hV1 : Hid (∀ s W, s = (ByteArray.mk (b :: t : List UInt8).toArray) → Calls Tryz.prog 50 #[.string s] W (WRes1 (nh, lh) W)) := fun s W hs => by rw [hs, hvh]; exact value_any _ hdh (by omega) W
  have hO : Hid (∀ W, Calls Tryz.prog 51 #[] W (WRes1 (no, lo) W)) := fun W => by rw [hvo]; exact one_any W
  have hC2 : Hid (∀ W, Calls Tryz.prog 48 #[.string ⟨(q : List UInt8).toArray⟩, .string ⟨#[47]⟩] W fun e w' => e = .returned (.tuple #[.string ⟨(q2 : List UInt8).toArray⟩, .bool true]) ∧ W = w') := fun W => by rw [← hp2, ← hq2]; exact cut_any q [47] W
  have hlq : q2.length ≤ 200 := by rw [← hq2]; exact Nat.le_trans (trimP_len _ _) (by omega)
  have hD2 : Hid (∀ W, Calls Tryz.prog 49 #[.string ⟨(q2 : List UInt8).toArray⟩] W fun e w' => e = .returned (.tuple #[.string ⟨(x :: xs : List UInt8).toArray⟩, .string ⟨(y :: ys : List UInt8).toArray⟩]) ∧ Below W.heap.size W w') := fun W => by rw [← hd, ← he]; exact digits_any q2 (by omega) W
  clear hm hr hh hq hvh hvo hlr h hl hp2 hq2 hd he hlq hll hdh vo
  go_enter_defers Tryz.func10, Tryz.ntmps10
  go_wp2_with fail
  refine (form_ok _).mono ?_
  rintro e w1 ⟨rfl, hb⟩
  have Fo : Hid (Ff w1 w.heap.size) := Ff.keep (Ff.keep (Ff.fresh (by simp) _ _) (Cf.fresh (by simp) _ _ _ _ _ _ _ _ _) (blw1 _ _)) (Cf.keep (Cf.fresh (by simp) _ _ _ _ _ _ _ _ _) (blw1 _ _)) hb
  have Ko : Hid (Cf w1 w.heap.size false none 0 0 false none 0 0) := Cf.keep (Cf.keep (Cf.fresh (by simp) _ _ _ _ _ _ _ _ _) (blw1 _ _)) hb
  have Ke : Hid (C1 w1 (w.heap.size + 1) (.int .i64 0)) := C1.keep (C1.fresh (by simp) _ _) hb
  replace B := kB2 B hb
  clear hb
  have hzo := lF Ko
  have hze := lC Ke
  go_wp2_with fail
  refine (hC1.out _).mono ?_
  rintro e w' ⟨rfl, rfl⟩
  go_wp2_with fail
  refine (hD1.out _).mono ?_
  rintro e w2 ⟨rfl, hb⟩
  replace Fo := kFf Fo Ko hb
  replace Ko := kF Ko hb
  replace Ke := kC Ke hb
  replace B := kB B hb
  clear hb
  replace hzo := lF Ko
  replace hze := lC Ke
  go_wp2_with fail
  refine (form_ok _).mono ?_
  rintro e w3 ⟨rfl, hb⟩
  replace Fo := kFf Fo Ko hb
  replace Ko := kF Ko hb
  replace Ke := kC Ke hb
  replace B := kB B hb
  clear hb
  replace hzo := lF Ko
  replace hze := lC Ke
  go_wp2_with fail
  refine (hV1.out _ _ rfl).mono ?_
  rintro e w4 ⟨A1, c1, rfl, hs1, hb⟩
  replace Fo := kFf Fo Ko hb
  replace Ko := kF Ko hb
  replace Ke := kC Ke hb
  replace B := kB B hb
  clear hb
  (try dsimp only at hs1)
  (try dsimp only)
  have Sq : Hid (Sl w4 A1 lh c1) := hs1
  clear hs1
  replace hzo := lF Ko
  replace hze := lC Ke
  go_wp2_with fail
  refine (hO.out _).mono ?_
  rintro e w5 ⟨A2, c2, rfl, hs2, hb⟩
  replace Sq := kS Sq hb
  replace Fo := kFf Fo Ko hb
  replace Ko := kF Ko hb
  replace Ke := kC Ke hb
  replace B := kB B hb
  clear hb
  (try dsimp only at hs2)
  (try dsimp only)
  have Sd : Hid (Sl w5 A2 lo c2) := hs2
  clear hs2
  replace hzo := lF Ko
  replace hze := lC Ke
  have hkoq := hzo
  have hkeq := hze
  have hkod := hzo
  have hked := hze
  go_wp2_with fail
  refine (hC2.out _).mono ?_
  rintro e w' ⟨rfl, rfl⟩
  go_wp2_with fail
  refine (hD2.out _).mono ?_
  rintro e w6 ⟨rfl, hb⟩
  replace Sq := kS2 Sq hb
  replace Sd := kS2 Sd hb
  replace Fo := kFf2 Fo Ko hb
  have Fq : Hid (Fw w6 w5.heap.size) := Fw.keep (Fw.keep (Fw.fresh (by simp) _ _) (Cw.fresh (by simp) _ _ _ _ _) (blw1 _ _)) (Cw.keep (Cw.fresh (by simp) _ _ _ _ _) (blw1 _ _)) hb
  have Fd : Hid (Fw w6 (w5.heap.size + 1)) := Fw.keep (Fw.fresh (by simp) _ _) (Cw.fresh (by simp) _ _ _ _ _) hb
  replace Ko := kF2 Ko hb
  replace Ke := kC2 Ke hb
  have Kq : Hid (Cw w6 w5.heap.size nh A1 lh.length c1) := Cw.keep (Cw.keep (Cw.fresh (by simp) _ _ _ _ _) (blw1 _ _)) hb
  have Kd : Hid (Cw w6 (w5.heap.size + 1) no A2 lo.length c2) := Cw.keep (Cw.fresh (by simp) _ _ _ _ _) hb
  replace B := kB2 B hb
  clear hb
  replace hzo := lF Ko
  replace hze := lC Ke
  have hzq := lW Kq
  have hzd := lW Kd
  go_wp2_with fail
  refine (form_bad _).mono ?_
  rintro e w7 ⟨rfl, hb⟩
  replace Sq := kS Sq hb
  replace Sd := kS Sd hb
  replace Fo := kFf Fo Ko hb
  replace Fq := kFw Fq Kq hb
  replace Fd := kFw Fd Kd hb
  replace Ko := kF Ko hb
  replace Ke := kC Ke hb
  replace Kq := kW Kq hb
  replace Kd := kW Kd hb
  replace B := kB B hb
  clear hb
  go_wp2_with fail
  refine leaves_cons (f := 46) (args := #[.pointer (some ⟨w.heap.size + 1, 0, none⟩)]) (by simp) (by simp [go_sem]) ?_
  refine (catch_fall (w.heap.size + 1) 0 12 [] _ Ke.out).mono ?_
  rintro e u' w'' ⟨rfl, rfl, ob, rfl⟩
  obtain ⟨qo0, qo1, qo2, qo3⟩ := Ko.out
  obtain ⟨fo0, fo1, fo2, fo3⟩ := Fo.out
  have hze2 : w.heap.size < w7.heap.size := lt_of_cell (a := ⟨w.heap.size, 0, none⟩) qo0
  have hze3 := lC Ke
  simp [Leaves, settle, results, Tryz.results10, go_sem, qo0, qo1, qo2, qo3, hze2, hze3, Ke.out.1]
  exact fres_fall 12 B.out (by omega) _ _

set_option maxRecDepth 100000 in
set_option maxHeartbeats 2000000 in
theorem parse_slash (l : List UInt8) (h : l.length ≤ 200) (m : Bool) (r q t : List UInt8) (b : UInt8) (hm : hasPrefix l [45] = m) (hr : trimPrefix l [45] = r) (hh : headD r = b :: t) (hq : tailD r = q) (q2 : List UInt8) (hp2 : hasPrefix q [47] = true) (hq2 : trimPrefix q [47] = q2) (x : UInt8) (xs : List UInt8) (hd : headD q2 = x :: xs) (he : tailD q2 = []) (w : World) :
    Calls Tryz.prog 10 #[.string ⟨l.toArray⟩] w (FRes (ofS (sgn m (dv (b :: t))) ((dv (x :: xs) : Nat) : Int)) w) := by
  have B : Hid (Below w.heap.size w w) := Below.refl _ _
  have d0 : decide (l.length ≤ 200) = true := decide_eq_true h
  have d1 : decide ((l.length : Int) ≤ 200) = true := decide_eq_true (by omega)
  have hl : l.length ≤ 3000 := by omega
  have hlr : r.length ≤ 200 := by rw [← hr]; exact Nat.le_trans (trimP_len _ _) h
  have hdh : Dig (b :: t) := hh ▸ headD_dig r
  have hll : (b :: t).length + q.length ≤ 200 := by rw [← hh, ← hq, headD_len]; exact hlr
  obtain ⟨⟨nh, lh⟩, hvh⟩ : ∃ p, p = wOf ((dv (b :: t) : Nat) : Int) := ⟨_, rfl⟩
  obtain ⟨⟨no, lo⟩, hvo⟩ : ∃ p, p = wOf (1 : Int) := ⟨_, rfl⟩
  have vo : VZ no lo 1 := vz_mk hvo fit_one
  have hC1 : Hid (∀ W, Calls Tryz.prog 48 #[.string ⟨(l : List UInt8).toArray⟩, .string ⟨#[45]⟩] W fun e w' => e = .returned (.tuple #[.string ⟨(r : List UInt8).toArray⟩, .bool m]) ∧ W = w') := fun W => by rw [← hr, ← hm]; exact cut_any l [45] W
  have hD1 : Hid (∀ W, Calls Tryz.prog 49 #[.string ⟨(r : List UInt8).toArray⟩] W fun e w' => e = .returned (.tuple #[.string ⟨(b :: t : List UInt8).toArray⟩, .string ⟨(q : List UInt8).toArray⟩]) ∧ Below W.heap.size W w') := fun W => by rw [← hh, ← hq]; exact digits_any r (by omega) W
  have hV1 : Hid (∀ s W, s = (ByteArray.mk (b :: t : List UInt8).toArray) → Calls Tryz.prog 50 #[.string s] W (WRes1 (nh, lh) W)) := fun s W hs => by rw [hs, hvh]; exact value_any _ hdh (by omega) W
  have hO : Hid (∀ W, Calls Tryz.prog 51 #[] W (WRes1 (no, lo) W)) := fun W => by rw [hvo]; exact one_any W
  have hC2 : Hid (∀ W, Calls Tryz.prog 48 #[.string ⟨(q : List UInt8).toArray⟩, .string ⟨#[47]⟩] W fun e w' => e = .returned (.tuple #[.string ⟨(q2 : List UInt8).toArray⟩, .bool true]) ∧ W = w') := fun W => by rw [← hp2, ← hq2]; exact cut_any q [47] W
  have hlq : q2.length ≤ 200 := by rw [← hq2]; exact Nat.le_trans (trimP_len _ _) (by omega)
  have hdx : Dig (x :: xs) := hd ▸ headD_dig q2
  have hlx : (x :: xs).length ≤ 200 := by rw [← hd]; have := headD_len q2; omega
  have hD2 : Hid (∀ W, Calls Tryz.prog 49 #[.string ⟨(q2 : List UInt8).toArray⟩] W fun e w' => e = .returned (.tuple #[.string ⟨(x :: xs : List UInt8).toArray⟩, .string ⟨([] : List UInt8).toArray⟩]) ∧ Below W.heap.size W w') := fun W => by have := digits_any q2 (by omega) W; rw [hd, he] at this; exact this
  obtain ⟨⟨nd, ld⟩, hvd⟩ : ∃ p, p = wOf ((dv (x :: xs) : Nat) : Int) := ⟨_, rfl⟩
  have hV2 : Hid (∀ s W, s = (ByteArray.mk (x :: xs : List UInt8).toArray) → Calls Tryz.prog 50 #[.string s] W (WRes1 (nd, ld) W)) := fun s W hs => by rw [hs, hvd]; exact value_any _ hdx (by omega) W
  have vh := vz_mk hvh (fit_dv hdh (by omega))
  have vd := vz_mk hvd (fit_dv hdx (by omega))
  obtain ⟨⟨⟨⟨nx, lx⟩, ⟨ny, ly⟩⟩, kk⟩, hR⟩ : ∃ p, p = ofS (sgn m (dv (b :: t))) ((dv (x :: xs) : Nat) : Int) := ⟨_, rfl⟩
  obtain ⟨⟨nn, ln⟩, hn⟩ : ∃ p, p = wOf (-(((dv (b :: t)) : Nat) : Int)) := ⟨_, rfl⟩
  have hN : Hid (negS nh lh = ((nn, ln), 0)) := by rw [hn]; exact negS_z vh
  have vn : VZ nn ln (-(((dv (b :: t)) : Nat) : Int)) := vz_mk hn (fit_mono (by simp) vh.2)
  have hM0 : Hid (m = false → makeS nh lh nd ld = (((nx, lx), (ny, ly)), kk)) := fun hm0 => by rw [make_good vh vd, hR, hm0]; rfl
  have hM1 : Hid (m = true → makeS nn ln nd ld = (((nx, lx), (ny, ly)), kk)) := fun hm1 => by rw [make_good vn vd, hR, hm1]; rfl
  rw [← hR]
  clear hm hr hh hq hvh hvo hlr h hl hp2 hq2 hd he hlq hll hdh vo hdx hlx hvd vh vd vn hn hR
  go_enter_defers Tryz.func10, Tryz.ntmps10
  go_wp2_with fail
  refine (form_ok _).mono ?_
  rintro e w1 ⟨rfl, hb⟩
  have Fo : Hid (Ff w1 w.heap.size) := Ff.keep (Ff.keep (Ff.fresh (by simp) _ _) (Cf.fresh (by simp) _ _ _ _ _ _ _ _ _) (blw1 _ _)) (Cf.keep (Cf.fresh (by simp) _ _ _ _ _ _ _ _ _) (blw1 _ _)) hb
  have Ko : Hid (Cf w1 w.heap.size false none 0 0 false none 0 0) := Cf.keep (Cf.keep (Cf.fresh (by simp) _ _ _ _ _ _ _ _ _) (blw1 _ _)) hb
  have Ke : Hid (C1 w1 (w.heap.size + 1) (.int .i64 0)) := C1.keep (C1.fresh (by simp) _ _) hb
  replace B := kB2 B hb
  clear hb
  have hzo := lF Ko
  have hze := lC Ke
  go_wp2_with fail
  refine (hC1.out _).mono ?_
  rintro e w' ⟨rfl, rfl⟩
  go_wp2_with fail
  refine (hD1.out _).mono ?_
  rintro e w2 ⟨rfl, hb⟩
  replace Fo := kFf Fo Ko hb
  replace Ko := kF Ko hb
  replace Ke := kC Ke hb
  replace B := kB B hb
  clear hb
  replace hzo := lF Ko
  replace hze := lC Ke
  go_wp2_with fail
  refine (form_ok _).mono ?_
  rintro e w3 ⟨rfl, hb⟩
  replace Fo := kFf Fo Ko hb
  replace Ko := kF Ko hb
  replace Ke := kC Ke hb
  replace B := kB B hb
  clear hb
  replace hzo := lF Ko
  replace hze := lC Ke
  go_wp2_with fail
  refine (hV1.out _ _ rfl).mono ?_
  rintro e w4 ⟨A1, c1, rfl, hs1, hb⟩
  replace Fo := kFf Fo Ko hb
  replace Ko := kF Ko hb
  replace Ke := kC Ke hb
  replace B := kB B hb
  clear hb
  (try dsimp only at hs1)
  (try dsimp only)
  have Sq : Hid (Sl w4 A1 lh c1) := hs1
  clear hs1
  replace hzo := lF Ko
  replace hze := lC Ke
  go_wp2_with fail
  refine (hO.out _).mono ?_
  rintro e w5 ⟨A2, c2, rfl, hs2, hb⟩
  replace Sq := kS Sq hb
  replace Fo := kFf Fo Ko hb
  replace Ko := kF Ko hb
  replace Ke := kC Ke hb
  replace B := kB B hb
  clear hb
  (try dsimp only at hs2)
  (try dsimp only)
  have Sd : Hid (Sl w5 A2 lo c2) := hs2
  clear hs2
  replace hzo := lF Ko
  replace hze := lC Ke
  have hkoq := hzo
  have hkeq := hze
  have hkod := hzo
  have hked := hze
  go_wp2_with fail
  refine (hC2.out _).mono ?_
  rintro e w' ⟨rfl, rfl⟩
  go_wp2_with fail
  refine (hD2.out _).mono ?_
  rintro e w6 ⟨rfl, hb⟩
  replace Sq := kS2 Sq hb
  replace Sd := kS2 Sd hb
  replace Fo := kFf2 Fo Ko hb
  have Fq : Hid (Fw w6 w5.heap.size) := Fw.keep (Fw.keep (Fw.fresh (by simp) _ _) (Cw.fresh (by simp) _ _ _ _ _) (blw1 _ _)) (Cw.keep (Cw.fresh (by simp) _ _ _ _ _) (blw1 _ _)) hb
  have Fd : Hid (Fw w6 (w5.heap.size + 1)) := Fw.keep (Fw.fresh (by simp) _ _) (Cw.fresh (by simp) _ _ _ _ _) hb
  replace Ko := kF2 Ko hb
  replace Ke := kC2 Ke hb
  have Kq : Hid (Cw w6 w5.heap.size nh A1 lh.length c1) := Cw.keep (Cw.keep (Cw.fresh (by simp) _ _ _ _ _) (blw1 _ _)) hb
  have Kd : Hid (Cw w6 (w5.heap.size + 1) no A2 lo.length c2) := Cw.keep (Cw.fresh (by simp) _ _ _ _ _) hb
  replace B := kB2 B hb
  clear hb
  replace hzo := lF Ko
  replace hze := lC Ke
  have hzq := lW Kq
  have hzd := lW Kd
  go_wp2_with fail
  refine (form_ok _).mono ?_
  rintro e w7 ⟨rfl, hb⟩
  replace Sq := kS Sq hb
  replace Sd := kS Sd hb
  replace Fo := kFf Fo Ko hb
  replace Fq := kFw Fq Kq hb
  replace Fd := kFw Fd Kd hb
  replace Ko := kF Ko hb
  replace Ke := kC Ke hb
  replace Kq := kW Kq hb
  replace Kd := kW Kd hb
  replace B := kB B hb
  clear hb
  replace hzo := lF Ko
  replace hze := lC Ke
  replace hzq := lW Kq
  replace hzd := lW Kd
  go_wp2_with fail
  refine (hV2.out _ _ rfl).mono ?_
  rintro e w8 ⟨A3, c3, rfl, hs3, hb⟩
  replace Sq := kS Sq hb
  replace Sd := kS Sd hb
  replace Fo := kFf Fo Ko hb
  replace Fq := kFw Fq Kq hb
  replace Fd := kFw Fd Kd hb
  replace Ko := kF Ko hb
  replace Ke := kC Ke hb
  replace Kq := kW Kq hb
  replace Kd := kW Kd hb
  replace B := kB B hb
  clear hb
  (try dsimp only at hs3)
  (try dsimp only)
  clear Sd
  have Sd : Hid (Sl w8 A3 ld c3) := hs3
  clear hs3
  obtain ⟨qd0, qd1⟩ := Kd.out
  obtain ⟨fd0, fd1⟩ := Fd.out
  replace hzo := lF Ko
  replace hze := lC Ke
  replace hzq := lW Kq
  replace hzd := lW Kd
  obtain ⟨qq0, qq1⟩ := Kq.out
  obtain ⟨fq0, fq1⟩ := Fq.out
  go_wp2_with fail
  · refine (neg_any nh _ lh _ _ (Sq.out.setW Kd.out.1 Kd.out.2 _ _)).mono ?_
    rw [hN.out]
    rintro e w9 ⟨A6, c6, rfl, hs6, hb⟩
    clear qd0 qd1 fd0 fd1 qq0 qq1 fq0 fq1
    replace Sq : Hid (Sl w9 A1 lh c1) := Sl.below (Sq.out.setW Kd.out.1 Kd.out.2 _ _) hb
    replace Sd : Hid (Sl w9 A3 ld c3) := Sl.below (Sd.out.setW Kd.out.1 Kd.out.2 _ _) hb
    replace Fo : Hid (Ff w9 w.heap.size) := Ff.keep (Ff.setW Fo.out _ _) (Cf.setW Ko.out (by omega) _ _) hb
    replace Fq : Hid (Fw w9 w5.heap.size) := Fw.keep (Fw.setW Fq.out _ _) (Cw.setW Kq.out (by omega) _ _) hb
    replace Fd : Hid (Fw w9 (w5.heap.size + 1)) := Fw.keep (Fw.setW Fd.out _ _) (Cw.new Kd.out) hb
    replace Ko : Hid (Cf w9 w.heap.size false none 0 0 false none 0 0) := Cf.keep (Cf.setW Ko.out (by omega) _ _) hb
    replace Ke : Hid (C1 w9 (w.heap.size + 1) (.int .i64 0)) := C1.keep (C1.setW Ke.out (by omega) _ _) hb
    replace Kq : Hid (Cw w9 w5.heap.size nh A1 lh.length c1) := Cw.keep (Cw.setW Kq.out (by omega) _ _) hb
    replace Kd : Hid (Cw w9 (w5.heap.size + 1) nd A3 ld.length c3) := Cw.keep (Cw.new Kd.out) hb
    replace B : Hid (Below w.heap.size w w9) := below_mono (below_setW B.out (by omega) _ _) hb
    clear hb
    (try dsimp only at hs6)
    (try dsimp only)
    have Sn : Hid (Sl w9 A6 ln c6) := hs6
    clear hs6
    obtain ⟨qq0, qq1⟩ := Kq.out
    obtain ⟨fq0, fq1⟩ := Fq.out
    obtain ⟨qd0, qd1⟩ := Kd.out
    obtain ⟨fd0, fd1⟩ := Fd.out
    replace hzo := lF Ko
    replace hze := lC Ke
    replace hzq := lW Kq
    replace hzd := lW Kd
    go_wp2_with fail
    refine (must_ok nn A6 ln.length c6 _).mono ?_
    rintro e w10 ⟨rfl, hb⟩
    clear qq0 qq1 fq0 fq1 qd0 qd1 fd0 fd1
    replace Sq := kS Sq hb
    replace Sd := kS Sd hb
    replace Sn := kS Sn hb
    replace Fo := kFf Fo Ko hb
    replace Fq := kFw Fq Kq hb
    replace Fd := kFw Fd Kd hb
    replace Ko := kF Ko hb
    replace Ke := kC Ke hb
    replace Kq := kW Kq hb
    replace Kd := kW Kd hb
    replace B := kB B hb
    clear hb
    obtain ⟨qq0, qq1⟩ := Kq.out
    obtain ⟨fq0, fq1⟩ := Fq.out
    obtain ⟨qd0, qd1⟩ := Kd.out
    obtain ⟨fd0, fd1⟩ := Fd.out
    replace hzo := lF Ko
    replace hze := lC Ke
    replace hzq := lW Kq
    replace hzd := lW Kd
    clear Sq
    have Sq := Sn
    go_wp2_with fail
    refine (make_any nn nd _ _ ln ld _ _ _ (Sq.out.setW Kq.out.1 Kq.out.2 _ _) (Sd.out.setW Kq.out.1 Kq.out.2 _ _)).mono ?_
    rw [hM1.out (by assumption)]
    rintro e w11 ⟨A8, c8, A9, c9, rfl, hs8, hs9, hb⟩
    clear qq0 qq1 fq0 fq1 qd0 qd1 fd0 fd1
    replace Sd : Hid (Sl w11 A3 ld c3) := Sl.below (Sd.out.setW Kq.out.1 Kq.out.2 _ _) hb
    replace Sq : Hid (Sl w11 A6 ln c6) := Sl.below (Sq.out.setW Kq.out.1 Kq.out.2 _ _) hb
    replace Fo : Hid (Ff w11 w.heap.size) := Ff.keep (Ff.setW Fo.out _ _) (Cf.setW Ko.out (by omega) _ _) hb
    replace Fq : Hid (Fw w11 w5.heap.size) := Fw.keep (Fw.setW Fq.out _ _) (Cw.new Kq.out) hb
    replace Fd : Hid (Fw w11 (w5.heap.size + 1)) := Fw.keep (Fw.setW Fd.out _ _) (Cw.setW Kd.out (by omega) _ _) hb
    replace Ko : Hid (Cf w11 w.heap.size false none 0 0 false none 0 0) := Cf.keep (Cf.setW Ko.out (by omega) _ _) hb
    replace Ke : Hid (C1 w11 (w.heap.size + 1) (.int .i64 0)) := C1.keep (C1.setW Ke.out (by omega) _ _) hb
    replace Kq : Hid (Cw w11 w5.heap.size nn A6 ln.length c6) := Cw.keep (Cw.new Kq.out) hb
    replace Kd : Hid (Cw w11 (w5.heap.size + 1) nd A3 ld.length c3) := Cw.keep (Cw.setW Kd.out (by omega) _ _) hb
    replace B : Hid (Below w.heap.size w w11) := below_mono (below_setW B.out (by omega) _ _) hb
    clear hb
    (try dsimp only at hs8 hs9)
    (try dsimp only)
    have Sx : Hid (Sl w11 A8 lx c8) := hs8
    clear hs8
    have Sy : Hid (Sl w11 A9 ly c9) := hs9
    clear hs9
    obtain ⟨qo0, qo1, qo2, qo3⟩ := Ko.out
    obtain ⟨fo0, fo1, fo2, fo3⟩ := Fo.out
    obtain ⟨qe0, qe1⟩ := Ke.out
    replace hzo := lF Ko
    replace hze := lC Ke
    replace hzq := lW Kq
    replace hzd := lW Kd
    go_wp2_with fail
    refine leaves_cons (f := 46) (args := #[.pointer (some ⟨w.heap.size + 1, 0, none⟩)]) (by simp) (by simp [go_sem]) ?_
    refine (catch_idle ⟨w.heap.size + 1, 0, none⟩ _).mono ?_
    rintro e u' w'' ⟨rfl, rfl, rfl⟩
    simp [Leaves, settle, results, Tryz.results10, go_sem, qo0, qo1, qo2, qo3, qe0]
    exact fres_store (r := ((nx, lx), (ny, ly))) kk Sx.out Sy.out Ko.out Ke.out (by omega) B.out (by omega) (by omega) _ _ _ _ _
  · refine (make_any nh nd _ _ lh ld _ _ _ (Sq.out.setW Kd.out.1 Kd.out.2 _ _) (Sd.out.setW Kd.out.1 Kd.out.2 _ _)).mono ?_
    rw [hM0.out (by assumption)]
    rintro e w9 ⟨A8, c8, A9, c9, rfl, hs8, hs9, hb⟩
    clear qd0 qd1 fd0 fd1 qq0 qq1 fq0 fq1
    replace Sq : Hid (Sl w9 A1 lh c1) := Sl.below (Sq.out.setW Kd.out.1 Kd.out.2 _ _) hb
    replace Sd : Hid (Sl w9 A3 ld c3) := Sl.below (Sd.out.setW Kd.out.1 Kd.out.2 _ _) hb
    replace Fo : Hid (Ff w9 w.heap.size) := Ff.keep (Ff.setW Fo.out _ _) (Cf.setW Ko.out (by omega) _ _) hb
    replace Fq : Hid (Fw w9 w5.heap.size) := Fw.keep (Fw.setW Fq.out _ _) (Cw.setW Kq.out (by omega) _ _) hb
    replace Fd : Hid (Fw w9 (w5.heap.size + 1)) := Fw.keep (Fw.setW Fd.out _ _) (Cw.new Kd.out) hb
    replace Ko : Hid (Cf w9 w.heap.size false none 0 0 false none 0 0) := Cf.keep (Cf.setW Ko.out (by omega) _ _) hb
    replace Ke : Hid (C1 w9 (w.heap.size + 1) (.int .i64 0)) := C1.keep (C1.setW Ke.out (by omega) _ _) hb
    replace Kq : Hid (Cw w9 w5.heap.size nh A1 lh.length c1) := Cw.keep (Cw.setW Kq.out (by omega) _ _) hb
    replace Kd : Hid (Cw w9 (w5.heap.size + 1) nd A3 ld.length c3) := Cw.keep (Cw.new Kd.out) hb
    replace B : Hid (Below w.heap.size w w9) := below_mono (below_setW B.out (by omega) _ _) hb
    clear hb
    (try dsimp only at hs8 hs9)
    (try dsimp only)
    have Sx : Hid (Sl w9 A8 lx c8) := hs8
    clear hs8
    have Sy : Hid (Sl w9 A9 ly c9) := hs9
    clear hs9
    obtain ⟨qo0, qo1, qo2, qo3⟩ := Ko.out
    obtain ⟨fo0, fo1, fo2, fo3⟩ := Fo.out
    obtain ⟨qe0, qe1⟩ := Ke.out
    replace hzo := lF Ko
    replace hze := lC Ke
    replace hzq := lW Kq
    replace hzd := lW Kd
    go_wp2_with fail
    refine leaves_cons (f := 46) (args := #[.pointer (some ⟨w.heap.size + 1, 0, none⟩)]) (by simp) (by simp [go_sem]) ?_
    refine (catch_idle ⟨w.heap.size + 1, 0, none⟩ _).mono ?_
    rintro e u' w'' ⟨rfl, rfl, rfl⟩
    simp [Leaves, settle, results, Tryz.results10, go_sem, qo0, qo1, qo2, qo3, qe0]
    exact fres_store (r := ((nx, lx), (ny, ly))) kk Sx.out Sy.out Ko.out Ke.out (by omega) B.out (by omega) (by omega) _ _ _ _ _

set_option maxRecDepth 100000 in
set_option maxHeartbeats 2000000 in
theorem parse_dot0 (l : List UInt8) (h : l.length ≤ 200) (m : Bool) (r q t : List UInt8) (b : UInt8) (hm : hasPrefix l [45] = m) (hr : trimPrefix l [45] = r) (hh : headD r = b :: t) (hq : tailD r = q) (hp2 : hasPrefix q [47] = false) (q3 : List UInt8) (hp3 : hasPrefix q [46] = true) (hq3 : trimPrefix q [46] = q3) (hd : headD q3 = []) (w : World) :
    Calls Tryz.prog 10 #[.string ⟨l.toArray⟩] w (FRes (zF, 12) w) := by
  have B : Hid (Below w.heap.size w w) := Below.refl _ _
  have d0 : decide (l.length ≤ 200) = true := decide_eq_true h
  have d1 : decide ((l.length : Int) ≤ 200) = true := decide_eq_true (by omega)
  have hl : l.length ≤ 3000 := by omega
  have hlr : r.length ≤ 200 := by rw [← hr]; exact Nat.le_trans (trimP_len _ _) h
  have hdh : Dig (b :: t) := hh ▸ headD_dig r
  have hll : (b :: t).length + q.length ≤ 200 := by rw [← hh, ← hq, headD_len]; exact hlr
  obtain ⟨⟨nh, lh⟩, hvh⟩ : ∃ p, p = wOf ((dv (b :: t) : Nat) : Int) := ⟨_, rfl⟩
  obtain ⟨⟨no, lo⟩, hvo⟩ : ∃ p, p = wOf (1 : Int) := ⟨_, rfl⟩
  have vo : VZ no lo 1 := vz_mk hvo fit_one
  have hC1 : Hid (∀ W, Calls Tryz.prog 48 #[.string ⟨(l : List UInt8).toArray⟩, .string ⟨#[45]⟩] W fun e w' => e = .returned (.tuple #[.string ⟨(r : List UInt8).toArray⟩, .bool m]) ∧ W = w') := fun W => by rw [← hr, ← hm]; exact cut_any l [45] W
  have hD1 : Hid (∀ W, Calls Tryz.prog 49 #[.string ⟨(r : List UInt8).toArray⟩] W fun e w' => e = .returned (.tuple #[.string ⟨(b :: t : List UInt8).toArray⟩, .string ⟨(q : List UInt8).toArray⟩]) ∧ Below W.heap.size W w') := fun W => by rw [← hh, ← hq]; exact digits_any r (by omega) W
  have hV1 : Hid (∀ s W, s = (ByteArray.mk (b :: t : List UInt8).toArray) → Calls Tryz.prog 50 #[.string s] W (WRes1 (nh, lh) W)) := fun s W hs => by rw [hs, hvh]; exact value_any _ hdh (by omega) W
  have hO : Hid (∀ W, Calls Tryz.prog 51 #[] W (WRes1 (no, lo) W)) := fun W => by rw [hvo]; exact one_any W
  have hq47 : trimPrefix q [47] = q := by unfold trimPrefix; rw [hp2]; rfl
  have hC2 : Hid (∀ W, Calls Tryz.prog 48 #[.string ⟨(q : List UInt8).toArray⟩, .string ⟨#[47]⟩] W fun e w' => e = .returned (.tuple #[.string ⟨(q : List UInt8).toArray⟩, .bool false]) ∧ W = w') := fun W => by have := cut_any q [47] W; rw [hq47, hp2] at this; exact this
  clear hq47
  have hC3 : Hid (∀ W, Calls Tryz.prog 48 #[.string ⟨(q : List UInt8).toArray⟩, .string ⟨#[46]⟩] W fun e w' => e = .returned (.tuple #[.string ⟨(q3 : List UInt8).toArray⟩, .bool true]) ∧ W = w') := fun W => by rw [← hp3, ← hq3]; exact cut_any q [46] W
  have hlq : q3.length ≤ q.length := by rw [← hq3]; exact trimP_len _ _
  have hD2 : Hid (∀ W, Calls Tryz.prog 49 #[.string ⟨(q3 : List UInt8).toArray⟩] W fun e w' => e = .returned (.tuple #[.string ⟨([] : List UInt8).toArray⟩, .string ⟨(tailD q3 : List UInt8).toArray⟩]) ∧ Below W.heap.size W w') := fun W => by have := digits_any q3 (by omega) W; rw [hd] at this; exact this
  generalize tailD q3 = x at *
  clear hm hr hh hq hvh hvo hlr h hl hp2 hp3 hq3 hd hlq hll hdh vo
  go_enter_defers Tryz.func10, Tryz.ntmps10
  go_wp2_with fail
  refine (form_ok _).mono ?_
  rintro e w1 ⟨rfl, hb⟩
  have Fo : Hid (Ff w1 w.heap.size) := Ff.keep (Ff.keep (Ff.fresh (by simp) _ _) (Cf.fresh (by simp) _ _ _ _ _ _ _ _ _) (blw1 _ _)) (Cf.keep (Cf.fresh (by simp) _ _ _ _ _ _ _ _ _) (blw1 _ _)) hb
  have Ko : Hid (Cf w1 w.heap.size false none 0 0 false none 0 0) := Cf.keep (Cf.keep (Cf.fresh (by simp) _ _ _ _ _ _ _ _ _) (blw1 _ _)) hb
  have Ke : Hid (C1 w1 (w.heap.size + 1) (.int .i64 0)) := C1.keep (C1.fresh (by simp) _ _) hb
  replace B := kB2 B hb
  clear hb
  have hzo := lF Ko
  have hze := lC Ke
  go_wp2_with fail
  refine (hC1.out _).mono ?_
  rintro e w' ⟨rfl, rfl⟩
  go_wp2_with fail
  refine (hD1.out _).mono ?_
  rintro e w2 ⟨rfl, hb⟩
  replace Fo := kFf Fo Ko hb
  replace Ko := kF Ko hb
  replace Ke := kC Ke hb
  replace B := kB B hb
  clear hb
  replace hzo := lF Ko
  replace hze := lC Ke
  go_wp2_with fail
  refine (form_ok _).mono ?_
  rintro e w3 ⟨rfl, hb⟩
  replace Fo := kFf Fo Ko hb
  replace Ko := kF Ko hb
  replace Ke := kC Ke hb
  replace B := kB B hb
  clear hb
  replace hzo := lF Ko
  replace hze := lC Ke
  go_wp2_with fail
  refine (hV1.out _ _ rfl).mono ?_
  rintro e w4 ⟨A1, c1, rfl, hs1, hb⟩
  replace Fo := kFf Fo Ko hb
  replace Ko := kF Ko hb
  replace Ke := kC Ke hb
  replace B := kB B hb
  clear hb
  (try dsimp only at hs1)
  (try dsimp only)
  have Sq : Hid (Sl w4 A1 lh c1) := hs1
  clear hs1
  replace hzo := lF Ko
  replace hze := lC Ke
  go_wp2_with fail
  refine (hO.out _).mono ?_
  rintro e w5 ⟨A2, c2, rfl, hs2, hb⟩
  replace Sq := kS Sq hb
  replace Fo := kFf Fo Ko hb
  replace Ko := kF Ko hb
  replace Ke := kC Ke hb
  replace B := kB B hb
  clear hb
  (try dsimp only at hs2)
  (try dsimp only)
  have Sd : Hid (Sl w5 A2 lo c2) := hs2
  clear hs2
  replace hzo := lF Ko
  replace hze := lC Ke
  have hkoq := hzo
  have hkeq := hze
  have hkod := hzo
  have hked := hze
  go_wp2_with fail
  refine (hC2.out _).mono ?_
  rintro e w' ⟨rfl, rfl⟩
  go_wp2_with fail
  refine (hC3.out _).mono ?_
  rintro e w' ⟨rfl, rfl⟩
  go_wp2_with fail
  refine (hD2.out _).mono ?_
  rintro e w6 ⟨rfl, hb⟩
  replace Sq := kS2 Sq hb
  replace Sd := kS2 Sd hb
  replace Fo := kFf2 Fo Ko hb
  have Fq : Hid (Fw w6 w5.heap.size) := Fw.keep (Fw.keep (Fw.fresh (by simp) _ _) (Cw.fresh (by simp) _ _ _ _ _) (blw1 _ _)) (Cw.keep (Cw.fresh (by simp) _ _ _ _ _) (blw1 _ _)) hb
  have Fd : Hid (Fw w6 (w5.heap.size + 1)) := Fw.keep (Fw.fresh (by simp) _ _) (Cw.fresh (by simp) _ _ _ _ _) hb
  replace Ko := kF2 Ko hb
  replace Ke := kC2 Ke hb
  have Kq : Hid (Cw w6 w5.heap.size nh A1 lh.length c1) := Cw.keep (Cw.keep (Cw.fresh (by simp) _ _ _ _ _) (blw1 _ _)) hb
  have Kd : Hid (Cw w6 (w5.heap.size + 1) no A2 lo.length c2) := Cw.keep (Cw.fresh (by simp) _ _ _ _ _) hb
  replace B := kB2 B hb
  clear hb
  replace hzo := lF Ko
  replace hze := lC Ke
  have hzq := lW Kq
  have hzd := lW Kd
  go_wp2_with fail
  refine (form_bad _).mono ?_
  rintro e w7 ⟨rfl, hb⟩
  replace Sq := kS Sq hb
  replace Sd := kS Sd hb
  replace Fo := kFf Fo Ko hb
  replace Fq := kFw Fq Kq hb
  replace Fd := kFw Fd Kd hb
  replace Ko := kF Ko hb
  replace Ke := kC Ke hb
  replace Kq := kW Kq hb
  replace Kd := kW Kd hb
  replace B := kB B hb
  clear hb
  go_wp2_with fail
  refine leaves_cons (f := 46) (args := #[.pointer (some ⟨w.heap.size + 1, 0, none⟩)]) (by simp) (by simp [go_sem]) ?_
  refine (catch_fall (w.heap.size + 1) 0 12 [] _ Ke.out).mono ?_
  rintro e u' w'' ⟨rfl, rfl, ob, rfl⟩
  obtain ⟨qo0, qo1, qo2, qo3⟩ := Ko.out
  obtain ⟨fo0, fo1, fo2, fo3⟩ := Fo.out
  have hze2 : w.heap.size < w7.heap.size := lt_of_cell (a := ⟨w.heap.size, 0, none⟩) qo0
  have hze3 := lC Ke
  simp [Leaves, settle, results, Tryz.results10, go_sem, qo0, qo1, qo2, qo3, hze2, hze3, Ke.out.1]
  exact fres_fall 12 B.out (by omega) _ _

set_option maxRecDepth 100000 in
set_option maxHeartbeats 2000000 in
theorem parse_dot1 (l : List UInt8) (h : l.length ≤ 200) (m : Bool) (r q t : List UInt8) (b : UInt8) (hm : hasPrefix l [45] = m) (hr : trimPrefix l [45] = r) (hh : headD r = b :: t) (hq : tailD r = q) (hp2 : hasPrefix q [47] = false) (q3 : List UInt8) (hp3 : hasPrefix q [46] = true) (hq3 : trimPrefix q [46] = q3) (x : UInt8) (xs q4 : List UInt8) (hd : headD q3 = x :: xs) (he : tailD q3 = q4) (hs : sciS q4 = none) (w : World) :
    Calls Tryz.prog 10 #[.string ⟨l.toArray⟩] w (FRes (zF, 12) w) := by
  have B : Hid (Below w.heap.size w w) := Below.refl _ _
  have d0 : decide (l.length ≤ 200) = true := decide_eq_true h
  have d1 : decide ((l.length : Int) ≤ 200) = true := decide_eq_true (by omega)
  have hl : l.length ≤ 3000 := by omega
  have hlr : r.length ≤ 200 := by rw [← hr]; exact Nat.le_trans (trimP_len _ _) h
  have hdh : Dig (b :: t) := hh ▸ headD_dig r
  have hll : (b :: t).length + q.length ≤ 200 := by rw [← hh, ← hq, headD_len]; exact hlr
  obtain ⟨⟨nh, lh⟩, hvh⟩ : ∃ p, p = wOf ((dv (b :: t) : Nat) : Int) := ⟨_, rfl⟩
  obtain ⟨⟨no, lo⟩, hvo⟩ : ∃ p, p = wOf (1 : Int) := ⟨_, rfl⟩
  have vo : VZ no lo 1 := vz_mk hvo fit_one
  have hC1 : Hid (∀ W, Calls Tryz.prog 48 #[.string ⟨(l : List UInt8).toArray⟩, .string ⟨#[45]⟩] W fun e w' => e = .returned (.tuple #[.string ⟨(r : List UInt8).toArray⟩, .bool m]) ∧ W = w') := fun W => by rw [← hr, ← hm]; exact cut_any l [45] W
  have hD1 : Hid (∀ W, Calls Tryz.prog 49 #[.string ⟨(r : List UInt8).toArray⟩] W fun e w' => e = .returned (.tuple #[.string ⟨(b :: t : List UInt8).toArray⟩, .string ⟨(q : List UInt8).toArray⟩]) ∧ Below W.heap.size W w') := fun W => by rw [← hh, ← hq]; exact digits_any r (by omega) W
  have hV1 : Hid (∀ s W, s = (ByteArray.mk (b :: t : List UInt8).toArray) → Calls Tryz.prog 50 #[.string s] W (WRes1 (nh, lh) W)) := fun s W hs => by rw [hs, hvh]; exact value_any _ hdh (by omega) W
  have hO : Hid (∀ W, Calls Tryz.prog 51 #[] W (WRes1 (no, lo) W)) := fun W => by rw [hvo]; exact one_any W
  have hq47 : trimPrefix q [47] = q := by unfold trimPrefix; rw [hp2]; rfl
  have hC2 : Hid (∀ W, Calls Tryz.prog 48 #[.string ⟨(q : List UInt8).toArray⟩, .string ⟨#[47]⟩] W fun e w' => e = .returned (.tuple #[.string ⟨(q : List UInt8).toArray⟩, .bool false]) ∧ W = w') := fun W => by have := cut_any q [47] W; rw [hq47, hp2] at this; exact this
  clear hq47
  have hC3 : Hid (∀ W, Calls Tryz.prog 48 #[.string ⟨(q : List UInt8).toArray⟩, .string ⟨#[46]⟩] W fun e w' => e = .returned (.tuple #[.string ⟨(q3 : List UInt8).toArray⟩, .bool true]) ∧ W = w') := fun W => by rw [← hp3, ← hq3]; exact cut_any q [46] W
  have hlq : q3.length ≤ q.length := by rw [← hq3]; exact trimP_len _ _
  have hD2 : Hid (∀ W, Calls Tryz.prog 49 #[.string ⟨(q3 : List UInt8).toArray⟩] W fun e w' => e = .returned (.tuple #[.string ⟨(x :: xs : List UInt8).toArray⟩, .string ⟨(q4 : List UInt8).toArray⟩]) ∧ Below W.heap.size W w') := fun W => by rw [← hd, ← he]; exact digits_any q3 (by omega) W
  have hl4 : q4.length ≤ 200 := by have := headD_len q3; rw [he] at this; omega
  have hS : Hid (∀ W, Calls Tryz.prog 52 #[.string ⟨q4.toArray⟩] W fun e w' => e = fallE 12 ∧ Below W.heap.size W w') := fun W => sci_bad q4 (by omega) hs W
  clear hm hr hh hq hvh hvo hlr h hl hp2 hp3 hq3 hd he hs hlq hll hl4 hdh vo
  go_enter_defers Tryz.func10, Tryz.ntmps10
  go_wp2_with fail
  refine (form_ok _).mono ?_
  rintro e w1 ⟨rfl, hb⟩
  have Fo : Hid (Ff w1 w.heap.size) := Ff.keep (Ff.keep (Ff.fresh (by simp) _ _) (Cf.fresh (by simp) _ _ _ _ _ _ _ _ _) (blw1 _ _)) (Cf.keep (Cf.fresh (by simp) _ _ _ _ _ _ _ _ _) (blw1 _ _)) hb
  have Ko : Hid (Cf w1 w.heap.size false none 0 0 false none 0 0) := Cf.keep (Cf.keep (Cf.fresh (by simp) _ _ _ _ _ _ _ _ _) (blw1 _ _)) hb
  have Ke : Hid (C1 w1 (w.heap.size + 1) (.int .i64 0)) := C1.keep (C1.fresh (by simp) _ _) hb
  replace B := kB2 B hb
  clear hb
  have hzo := lF Ko
  have hze := lC Ke
  go_wp2_with fail
  refine (hC1.out _).mono ?_
  rintro e w' ⟨rfl, rfl⟩
  go_wp2_with fail
  refine (hD1.out _).mono ?_
  rintro e w2 ⟨rfl, hb⟩
  replace Fo := kFf Fo Ko hb
  replace Ko := kF Ko hb
  replace Ke := kC Ke hb
  replace B := kB B hb
  clear hb
  replace hzo := lF Ko
  replace hze := lC Ke
  go_wp2_with fail
  refine (form_ok _).mono ?_
  rintro e w3 ⟨rfl, hb⟩
  replace Fo := kFf Fo Ko hb
  replace Ko := kF Ko hb
  replace Ke := kC Ke hb
  replace B := kB B hb
  clear hb
  replace hzo := lF Ko
  replace hze := lC Ke
  go_wp2_with fail
  refine (hV1.out _ _ rfl).mono ?_
  rintro e w4 ⟨A1, c1, rfl, hs1, hb⟩
  replace Fo := kFf Fo Ko hb
  replace Ko := kF Ko hb
  replace Ke := kC Ke hb
  replace B := kB B hb
  clear hb
  (try dsimp only at hs1)
  (try dsimp only)
  have Sq : Hid (Sl w4 A1 lh c1) := hs1
  clear hs1
  replace hzo := lF Ko
  replace hze := lC Ke
  go_wp2_with fail
  refine (hO.out _).mono ?_
  rintro e w5 ⟨A2, c2, rfl, hs2, hb⟩
  replace Sq := kS Sq hb
  replace Fo := kFf Fo Ko hb
  replace Ko := kF Ko hb
  replace Ke := kC Ke hb
  replace B := kB B hb
  clear hb
  (try dsimp only at hs2)
  (try dsimp only)
  have Sd : Hid (Sl w5 A2 lo c2) := hs2
  clear hs2
  replace hzo := lF Ko
  replace hze := lC Ke
  have hkoq := hzo
  have hkeq := hze
  have hkod := hzo
  have hked := hze
  go_wp2_with fail
  refine (hC2.out _).mono ?_
  rintro e w' ⟨rfl, rfl⟩
  go_wp2_with fail
  refine (hC3.out _).mono ?_
  rintro e w' ⟨rfl, rfl⟩
  go_wp2_with fail
  refine (hD2.out _).mono ?_
  rintro e w6 ⟨rfl, hb⟩
  replace Sq := kS2 Sq hb
  replace Sd := kS2 Sd hb
  replace Fo := kFf2 Fo Ko hb
  have Fq : Hid (Fw w6 w5.heap.size) := Fw.keep (Fw.keep (Fw.fresh (by simp) _ _) (Cw.fresh (by simp) _ _ _ _ _) (blw1 _ _)) (Cw.keep (Cw.fresh (by simp) _ _ _ _ _) (blw1 _ _)) hb
  have Fd : Hid (Fw w6 (w5.heap.size + 1)) := Fw.keep (Fw.fresh (by simp) _ _) (Cw.fresh (by simp) _ _ _ _ _) hb
  replace Ko := kF2 Ko hb
  replace Ke := kC2 Ke hb
  have Kq : Hid (Cw w6 w5.heap.size nh A1 lh.length c1) := Cw.keep (Cw.keep (Cw.fresh (by simp) _ _ _ _ _) (blw1 _ _)) hb
  have Kd : Hid (Cw w6 (w5.heap.size + 1) no A2 lo.length c2) := Cw.keep (Cw.fresh (by simp) _ _ _ _ _) hb
  replace B := kB2 B hb
  clear hb
  replace hzo := lF Ko
  replace hze := lC Ke
  have hzq := lW Kq
  have hzd := lW Kd
  go_wp2_with fail
  refine (form_ok _).mono ?_
  rintro e w7 ⟨rfl, hb⟩
  replace Sq := kS Sq hb
  replace Sd := kS Sd hb
  replace Fo := kFf Fo Ko hb
  replace Fq := kFw Fq Kq hb
  replace Fd := kFw Fd Kd hb
  replace Ko := kF Ko hb
  replace Ke := kC Ke hb
  replace Kq := kW Kq hb
  replace Kd := kW Kd hb
  replace B := kB B hb
  clear hb
  replace hzo := lF Ko
  replace hze := lC Ke
  replace hzq := lW Kq
  replace hzd := lW Kd
  go_wp2_with fail
  refine (hS.out _).mono ?_
  rintro e w8 ⟨rfl, hb⟩
  replace Sq := kS Sq hb
  replace Sd := kS Sd hb
  replace Fo := kFf Fo Ko hb
  replace Fq := kFw Fq Kq hb
  replace Fd := kFw Fd Kd hb
  replace Ko := kF Ko hb
  replace Ke := kC Ke hb
  replace Kq := kW Kq hb
  replace Kd := kW Kd hb
  replace B := kB B hb
  clear hb
  go_wp2_with fail
  refine leaves_cons (f := 46) (args := #[.pointer (some ⟨w.heap.size + 1, 0, none⟩)]) (by simp) (by simp [go_sem]) ?_
  refine (catch_fall (w.heap.size + 1) 0 12 [] _ Ke.out).mono ?_
  rintro e u' w'' ⟨rfl, rfl, ob, rfl⟩
  obtain ⟨qo0, qo1, qo2, qo3⟩ := Ko.out
  obtain ⟨fo0, fo1, fo2, fo3⟩ := Fo.out
  have hze2 : w.heap.size < w8.heap.size := lt_of_cell (a := ⟨w.heap.size, 0, none⟩) qo0
  have hze3 := lC Ke
  simp [Leaves, settle, results, Tryz.results10, go_sem, qo0, qo1, qo2, qo3, hze2, hze3, Ke.out.1]
  exact fres_fall 12 B.out (by omega) _ _

set_option maxRecDepth 100000 in
set_option maxHeartbeats 2000000 in
theorem parse_not1 (l : List UInt8) (h : l.length ≤ 200) (m : Bool) (r q t : List UInt8) (b : UInt8) (hm : hasPrefix l [45] = m) (hr : trimPrefix l [45] = r) (hh : headD r = b :: t) (hq : tailD r = q) (hp2 : hasPrefix q [47] = false) (hp3 : hasPrefix q [46] = false) (hs : sciS q = none) (w : World) :
    Calls Tryz.prog 10 #[.string ⟨l.toArray⟩] w (FRes (zF, 12) w) := by
  have B : Hid (Below w.heap.size w w) := Below.refl _ _
  have d0 : decide (l.length ≤ 200) = true := decide_eq_true h
  have d1 : decide ((l.length : Int) ≤ 200) = true := decide_eq_true (by omega)
  have hl : l.length ≤ 3000 := by omega
  have hlr : r.length ≤ 200 := by rw [← hr]; exact Nat.le_trans (trimP_len _ _) h
  have hdh : Dig (b :: t) := hh ▸ headD_dig r
  have hll : (b :: t).length + q.length ≤ 200 := by rw [← hh, ← hq, headD_len]; exact hlr
  obtain ⟨⟨nh, lh⟩, hvh⟩ : ∃ p, p = wOf ((dv (b :: t) : Nat) : Int) := ⟨_, rfl⟩
  obtain ⟨⟨no, lo⟩, hvo⟩ : ∃ p, p = wOf (1 : Int) := ⟨_, rfl⟩
  have vo : VZ no lo 1 := vz_mk hvo fit_one
  have hC1 : Hid (∀ W, Calls Tryz.prog 48 #[.string ⟨(l : List UInt8).toArray⟩, .string ⟨#[45]⟩] W fun e w' => e = .returned (.tuple #[.string ⟨(r : List UInt8).toArray⟩, .bool m]) ∧ W = w') := fun W => by rw [← hr, ← hm]; exact cut_any l [45] W
  have hD1 : Hid (∀ W, Calls Tryz.prog 49 #[.string ⟨(r : List UInt8).toArray⟩] W fun e w' => e = .returned (.tuple #[.string ⟨(b :: t : List UInt8).toArray⟩, .string ⟨(q : List UInt8).toArray⟩]) ∧ Below W.heap.size W w') := fun W => by rw [← hh, ← hq]; exact digits_any r (by omega) W
  have hV1 : Hid (∀ s W, s = (ByteArray.mk (b :: t : List UInt8).toArray) → Calls Tryz.prog 50 #[.string s] W (WRes1 (nh, lh) W)) := fun s W hs => by rw [hs, hvh]; exact value_any _ hdh (by omega) W
  have hO : Hid (∀ W, Calls Tryz.prog 51 #[] W (WRes1 (no, lo) W)) := fun W => by rw [hvo]; exact one_any W
  have hq47 : trimPrefix q [47] = q := by unfold trimPrefix; rw [hp2]; rfl
  have hC2 : Hid (∀ W, Calls Tryz.prog 48 #[.string ⟨(q : List UInt8).toArray⟩, .string ⟨#[47]⟩] W fun e w' => e = .returned (.tuple #[.string ⟨(q : List UInt8).toArray⟩, .bool false]) ∧ W = w') := fun W => by have := cut_any q [47] W; rw [hq47, hp2] at this; exact this
  clear hq47
  have hq46 : trimPrefix q [46] = q := by unfold trimPrefix; rw [hp3]; rfl
  have hC3 : Hid (∀ W, Calls Tryz.prog 48 #[.string ⟨(q : List UInt8).toArray⟩, .string ⟨#[46]⟩] W fun e w' => e = .returned (.tuple #[.string ⟨(q : List UInt8).toArray⟩, .bool false]) ∧ W = w') := fun W => by have := cut_any q [46] W; rw [hq46, hp3] at this; exact this
  clear hq46
  have hS : Hid (∀ W, Calls Tryz.prog 52 #[.string ⟨q.toArray⟩] W fun e w' => e = fallE 12 ∧ Below W.heap.size W w') := fun W => sci_bad q (by simp at hll; omega) hs W
  clear hm hr hh hq hvh hvo hlr h hl hp2 hp3 hs hll hdh vo
  go_enter_defers Tryz.func10, Tryz.ntmps10
  go_wp2_with fail
  refine (form_ok _).mono ?_
  rintro e w1 ⟨rfl, hb⟩
  have Fo : Hid (Ff w1 w.heap.size) := Ff.keep (Ff.keep (Ff.fresh (by simp) _ _) (Cf.fresh (by simp) _ _ _ _ _ _ _ _ _) (blw1 _ _)) (Cf.keep (Cf.fresh (by simp) _ _ _ _ _ _ _ _ _) (blw1 _ _)) hb
  have Ko : Hid (Cf w1 w.heap.size false none 0 0 false none 0 0) := Cf.keep (Cf.keep (Cf.fresh (by simp) _ _ _ _ _ _ _ _ _) (blw1 _ _)) hb
  have Ke : Hid (C1 w1 (w.heap.size + 1) (.int .i64 0)) := C1.keep (C1.fresh (by simp) _ _) hb
  replace B := kB2 B hb
  clear hb
  have hzo := lF Ko
  have hze := lC Ke
  go_wp2_with fail
  refine (hC1.out _).mono ?_
  rintro e w' ⟨rfl, rfl⟩
  go_wp2_with fail
  refine (hD1.out _).mono ?_
  rintro e w2 ⟨rfl, hb⟩
  replace Fo := kFf Fo Ko hb
  replace Ko := kF Ko hb
  replace Ke := kC Ke hb
  replace B := kB B hb
  clear hb
  replace hzo := lF Ko
  replace hze := lC Ke
  go_wp2_with fail
  refine (form_ok _).mono ?_
  rintro e w3 ⟨rfl, hb⟩
  replace Fo := kFf Fo Ko hb
  replace Ko := kF Ko hb
  replace Ke := kC Ke hb
  replace B := kB B hb
  clear hb
  replace hzo := lF Ko
  replace hze := lC Ke
  go_wp2_with fail
  refine (hV1.out _ _ rfl).mono ?_
  rintro e w4 ⟨A1, c1, rfl, hs1, hb⟩
  replace Fo := kFf Fo Ko hb
  replace Ko := kF Ko hb
  replace Ke := kC Ke hb
  replace B := kB B hb
  clear hb
  (try dsimp only at hs1)
  (try dsimp only)
  have Sq : Hid (Sl w4 A1 lh c1) := hs1
  clear hs1
  replace hzo := lF Ko
  replace hze := lC Ke
  go_wp2_with fail
  refine (hO.out _).mono ?_
  rintro e w5 ⟨A2, c2, rfl, hs2, hb⟩
  replace Sq := kS Sq hb
  replace Fo := kFf Fo Ko hb
  replace Ko := kF Ko hb
  replace Ke := kC Ke hb
  replace B := kB B hb
  clear hb
  (try dsimp only at hs2)
  (try dsimp only)
  have Sd : Hid (Sl w5 A2 lo c2) := hs2
  clear hs2
  replace hzo := lF Ko
  replace hze := lC Ke
  have hkoq := hzo
  have hkeq := hze
  have hkod := hzo
  have hked := hze
  go_wp2_with fail
  refine (hC2.out _).mono ?_
  rintro e w' ⟨rfl, rfl⟩
  go_wp2_with fail
  refine (hC3.out _).mono ?_
  rintro e w' ⟨rfl, rfl⟩
  go_wp2_with fail
  refine (hS.out _).mono ?_
  rintro e w6 ⟨rfl, hb⟩
  replace Sq := kS2 Sq hb
  replace Sd := kS2 Sd hb
  replace Fo := kFf2 Fo Ko hb
  have Fq : Hid (Fw w6 w5.heap.size) := Fw.keep (Fw.keep (Fw.fresh (by simp) _ _) (Cw.fresh (by simp) _ _ _ _ _) (blw1 _ _)) (Cw.keep (Cw.fresh (by simp) _ _ _ _ _) (blw1 _ _)) hb
  have Fd : Hid (Fw w6 (w5.heap.size + 1)) := Fw.keep (Fw.fresh (by simp) _ _) (Cw.fresh (by simp) _ _ _ _ _) hb
  replace Ko := kF2 Ko hb
  replace Ke := kC2 Ke hb
  have Kq : Hid (Cw w6 w5.heap.size nh A1 lh.length c1) := Cw.keep (Cw.keep (Cw.fresh (by simp) _ _ _ _ _) (blw1 _ _)) hb
  have Kd : Hid (Cw w6 (w5.heap.size + 1) no A2 lo.length c2) := Cw.keep (Cw.fresh (by simp) _ _ _ _ _) hb
  replace B := kB2 B hb
  clear hb
  go_wp2_with fail
  refine leaves_cons (f := 46) (args := #[.pointer (some ⟨w.heap.size + 1, 0, none⟩)]) (by simp) (by simp [go_sem]) ?_
  refine (catch_fall (w.heap.size + 1) 0 12 [] _ Ke.out).mono ?_
  rintro e u' w'' ⟨rfl, rfl, ob, rfl⟩
  obtain ⟨qo0, qo1, qo2, qo3⟩ := Ko.out
  obtain ⟨fo0, fo1, fo2, fo3⟩ := Fo.out
  have hze2 : w.heap.size < w6.heap.size := lt_of_cell (a := ⟨w.heap.size, 0, none⟩) qo0
  have hze3 := lC Ke
  simp [Leaves, settle, results, Tryz.results10, go_sem, qo0, qo1, qo2, qo3, hze2, hze3, Ke.out.1]
  exact fres_fall 12 B.out (by omega) _ _

set_option maxRecDepth 100000 in
set_option maxHeartbeats 2000000 in
theorem parse_dot_up (l : List UInt8) (h : l.length ≤ 200) (m : Bool) (r q t : List UInt8) (b : UInt8) (hm : hasPrefix l [45] = m) (hr : trimPrefix l [45] = r) (hh : headD r = b :: t) (hq : tailD r = q) (hp2 : hasPrefix q [47] = false) (q3 : List UInt8) (hp3 : hasPrefix q [46] = true) (hq3 : trimPrefix q [46] = q3) (x : UInt8) (xs q4 : List UInt8) (hd : headD q3 = x :: xs) (he : tailD q3 = q4) (k : Int) (hs : sciS q4 = some k) (j : Nat) (hj : k - ((x :: xs).length : Int) = (j : Int)) (w : World) :
    Calls Tryz.prog 10 #[.string ⟨l.toArray⟩] w (FRes (ofS (sgn m ((dv ((b :: t) ++ (x :: xs))) * 10 ^ j)) 1) w) := by
  have B : Hid (Below w.heap.size w w) := Below.refl _ _
  have d0 : decide (l.length ≤ 200) = true := decide_eq_true h
  have d1 : decide ((l.length : Int) ≤ 200) = true := decide_eq_true (by omega)
  have hl : l.length ≤ 3000 := by omega
  have hlr : r.length ≤ 200 := by rw [← hr]; exact Nat.le_trans (trimP_len _ _) h
  have hdh : Dig (b :: t) := hh ▸ headD_dig r
  have hll : (b :: t).length + q.length ≤ 200 := by rw [← hh, ← hq, headD_len]; exact hlr
  obtain ⟨⟨nh, lh⟩, hvh⟩ : ∃ p, p = wOf ((dv (b :: t) : Nat) : Int) := ⟨_, rfl⟩
  obtain ⟨⟨no, lo⟩, hvo⟩ : ∃ p, p = wOf (1 : Int) := ⟨_, rfl⟩
  have vo : VZ no lo 1 := vz_mk hvo fit_one
  have hC1 : Hid (∀ W, Calls Tryz.prog 48 #[.string ⟨(l : List UInt8).toArray⟩, .string ⟨#[45]⟩] W fun e w' => e = .returned (.tuple #[.string ⟨(r : List UInt8).toArray⟩, .bool m]) ∧ W = w') := fun W => by rw [← hr, ← hm]; exact cut_any l [45] W
  have hD1 : Hid (∀ W, Calls Tryz.prog 49 #[.string ⟨(r : List UInt8).toArray⟩] W fun e w' => e = .returned (.tuple #[.string ⟨(b :: t : List UInt8).toArray⟩, .string ⟨(q : List UInt8).toArray⟩]) ∧ Below W.heap.size W w') := fun W => by rw [← hh, ← hq]; exact digits_any r (by omega) W
  have hV1 : Hid (∀ s W, s = (ByteArray.mk (b :: t : List UInt8).toArray) → Calls Tryz.prog 50 #[.string s] W (WRes1 (nh, lh) W)) := fun s W hs => by rw [hs, hvh]; exact value_any _ hdh (by omega) W
  have hO : Hid (∀ W, Calls Tryz.prog 51 #[] W (WRes1 (no, lo) W)) := fun W => by rw [hvo]; exact one_any W
  have hq47 : trimPrefix q [47] = q := by unfold trimPrefix; rw [hp2]; rfl
  have hC2 : Hid (∀ W, Calls Tryz.prog 48 #[.string ⟨(q : List UInt8).toArray⟩, .string ⟨#[47]⟩] W fun e w' => e = .returned (.tuple #[.string ⟨(q : List UInt8).toArray⟩, .bool false]) ∧ W = w') := fun W => by have := cut_any q [47] W; rw [hq47, hp2] at this; exact this
  clear hq47
  have hC3 : Hid (∀ W, Calls Tryz.prog 48 #[.string ⟨(q : List UInt8).toArray⟩, .string ⟨#[46]⟩] W fun e w' => e = .returned (.tuple #[.string ⟨(q3 : List UInt8).toArray⟩, .bool true]) ∧ W = w') := fun W => by rw [← hp3, ← hq3]; exact cut_any q [46] W
  have hlq : q3.length ≤ q.length := by rw [← hq3]; exact trimP_len _ _
  have hD2 : Hid (∀ W, Calls Tryz.prog 49 #[.string ⟨(q3 : List UInt8).toArray⟩] W fun e w' => e = .returned (.tuple #[.string ⟨(x :: xs : List UInt8).toArray⟩, .string ⟨(q4 : List UInt8).toArray⟩]) ∧ Below W.heap.size W w') := fun W => by rw [← hd, ← he]; exact digits_any q3 (by omega) W
  have hl4 : (x :: xs).length + q4.length ≤ q3.length := by have := headD_len q3; rw [he, hd] at this; omega
  have hdp : Dig (x :: xs) := hd ▸ headD_dig q3
  have hpl : xs.length ≤ 199 := by simp at hl4; omega
  have hkb := sci_bd hs
  have hS : Hid (∀ W, Calls Tryz.prog 52 #[.string ⟨q4.toArray⟩] W fun e w' => e = .returned (.int .i64 k) ∧ Below W.heap.size W w') := fun W => sci_ok q4 (by simp at hll; omega) k hs W
  have htl : t.length ≤ 200 := by simp at hll; omega
  have hla : ((b :: t) ++ (x :: xs)).length ≤ 200 := by simp at hll hl4 ⊢; omega
  have hda : Dig ((b :: t) ++ (x :: xs)) := dig_append hdh hdp
  have hjb : j ≤ 1300 := by simp at hj hl4; omega
  obtain ⟨⟨na, la⟩, hva⟩ : ∃ p, p = wOf ((dv ((b :: t) ++ (x :: xs)) : Nat) : Int) := ⟨_, rfl⟩
  have va := vz_mk hva (fit_dv hda (by omega))
  have hV2 : Hid (∀ s W, s = (ByteArray.mk ((b :: t) ++ (x :: xs) : List UInt8).toArray) → Calls Tryz.prog 50 #[.string s] W (WRes1 (na, la) W)) := fun s W hs => by rw [hs, hva]; exact value_any _ hda (by omega) W
  obtain ⟨⟨nt, lt⟩, hvt⟩ : ∃ p, p = p10 j := ⟨_, rfl⟩
  have vt : VZ nt lt ((10 : Int) ^ j) := vz_mk hvt (fit_pow10 (by omega))
  have hT : Hid (∀ z W, z = (j : Int) → Calls Tryz.prog 55 #[.int .i64 z] W (WRes1 (nt, lt) W)) := fun z W hz => by rw [hz, hvt]; exact ten_any j (by omega) W
  obtain ⟨⟨ne, le⟩, hve⟩ : ∃ p, p = wOf (((((dv ((b :: t) ++ (x :: xs))) * 10 ^ j) : Nat)) : Int) := ⟨_, rfl⟩
  have fz : fitZ ((((dv ((b :: t) ++ (x :: xs))) * 10 ^ j) : Nat) : Int) := fit_ten (k := 200 + j) (by rw [Int.natAbs_natCast, Nat.pow_add]; exact Nat.mul_le_mul_right _ (Nat.le_of_lt (Nat.lt_of_lt_of_le (dv_lt hda) (Nat.pow_le_pow_right (by omega) hla)))) (by omega)
  have ve := vz_mk hve fz
  have hzz : (((((dv ((b :: t) ++ (x :: xs))) * 10 ^ j) : Nat)) : Int) = (((dv ((b :: t) ++ (x :: xs))) : Nat) : Int) * (10 : Int) ^ j := by rw [Int.natCast_mul, Int.natCast_pow]; rfl
  have hME : Hid (mulS na la nt lt = ((ne, le), 0)) := by have := mulS_z va vt (by rw [← hzz]; exact fz); rw [Hid, this, ← hzz, hve]
  clear hzz
  obtain ⟨⟨⟨⟨nx, lx⟩, ⟨ny, ly⟩⟩, kk⟩, hR⟩ : ∃ p, p = ofS (sgn m ((dv ((b :: t) ++ (x :: xs))) * 10 ^ j)) 1 := ⟨_, rfl⟩
  obtain ⟨⟨nn, ln⟩, hn⟩ : ∃ p, p = wOf (-((((dv ((b :: t) ++ (x :: xs))) * 10 ^ j) : Nat) : Int)) := ⟨_, rfl⟩
  have hN : Hid (negS ne le = ((nn, ln), 0)) := by rw [hn]; exact negS_z ve
  have vn : VZ nn ln (-((((dv ((b :: t) ++ (x :: xs))) * 10 ^ j) : Nat) : Int)) := vz_mk hn (fit_mono (by simp) ve.2)
  have hM0 : Hid (m = false → makeS ne le no lo = (((nx, lx), (ny, ly)), kk)) := fun hm0 => by rw [make_good ve vo, hR, hm0]; rfl
  have hM1 : Hid (m = true → makeS nn ln no lo = (((nx, lx), (ny, ly)), kk)) := fun hm1 => by rw [make_good vn vo, hR, hm1]; rfl
  rw [← hR]
  have dp1 : decide (((xs.length : Int) + 1) ≤ k) = true := decide_eq_true (by simp at hj; omega)
  have dp2 : decide (0 ≤ k - ((xs.length : Int) + 1)) = true := decide_eq_true (by simp at hj; omega)
  have hj2 := Lib.hid hj
  clear hm hr hh hq hvh hvo hlr h hl hp2 hp3 hq3 hd he hlq hl4 hs hll hdh vo hdp hla hda hva va hvt vt hve fz ve vn hn hR hj
  go_enter_defers Tryz.func10, Tryz.ntmps10
  go_wp2_with fail
  refine (form_ok _).mono ?_
  rintro e w1 ⟨rfl, hb⟩
  have Fo : Hid (Ff w1 w.heap.size) := Ff.keep (Ff.keep (Ff.fresh (by simp) _ _) (Cf.fresh (by simp) _ _ _ _ _ _ _ _ _) (blw1 _ _)) (Cf.keep (Cf.fresh (by simp) _ _ _ _ _ _ _ _ _) (blw1 _ _)) hb
  have Ko : Hid (Cf w1 w.heap.size false none 0 0 false none 0 0) := Cf.keep (Cf.keep (Cf.fresh (by simp) _ _ _ _ _ _ _ _ _) (blw1 _ _)) hb
  have Ke : Hid (C1 w1 (w.heap.size + 1) (.int .i64 0)) := C1.keep (C1.fresh (by simp) _ _) hb
  replace B := kB2 B hb
  clear hb
  have hzo := lF Ko
  have hze := lC Ke
  go_wp2_with fail
  refine (hC1.out _).mono ?_
  rintro e w' ⟨rfl, rfl⟩
  go_wp2_with fail
  refine (hD1.out _).mono ?_
  rintro e w2 ⟨rfl, hb⟩
  replace Fo := kFf Fo Ko hb
  replace Ko := kF Ko hb
  replace Ke := kC Ke hb
  replace B := kB B hb
  clear hb
  replace hzo := lF Ko
  replace hze := lC Ke
  go_wp2_with fail
  refine (form_ok _).mono ?_
  rintro e w3 ⟨rfl, hb⟩
  replace Fo := kFf Fo Ko hb
  replace Ko := kF Ko hb
  replace Ke := kC Ke hb
  replace B := kB B hb
  clear hb
  replace hzo := lF Ko
  replace hze := lC Ke
  go_wp2_with fail
  refine (hV1.out _ _ rfl).mono ?_
  rintro e w4 ⟨A1, c1, rfl, hs1, hb⟩
  replace Fo := kFf Fo Ko hb
  replace Ko := kF Ko hb
  replace Ke := kC Ke hb
  replace B := kB B hb
  clear hb
  (try dsimp only at hs1)
  (try dsimp only)
  have Sq : Hid (Sl w4 A1 lh c1) := hs1
  clear hs1
  replace hzo := lF Ko
  replace hze := lC Ke
  go_wp2_with fail
  refine (hO.out _).mono ?_
  rintro e w5 ⟨A2, c2, rfl, hs2, hb⟩
  replace Sq := kS Sq hb
  replace Fo := kFf Fo Ko hb
  replace Ko := kF Ko hb
  replace Ke := kC Ke hb
  replace B := kB B hb
  clear hb
  (try dsimp only at hs2)
  (try dsimp only)
  have Sd : Hid (Sl w5 A2 lo c2) := hs2
  clear hs2
  replace hzo := lF Ko
  replace hze := lC Ke
  have hkoq := hzo
  have hkeq := hze
  have hkod := hzo
  have hked := hze
  go_wp2_with fail
  refine (hC2.out _).mono ?_
  rintro e w' ⟨rfl, rfl⟩
  go_wp2_with fail
  refine (hC3.out _).mono ?_
  rintro e w' ⟨rfl, rfl⟩
  go_wp2_with fail
  refine (hD2.out _).mono ?_
  rintro e w6 ⟨rfl, hb⟩
  replace Sq := kS2 Sq hb
  replace Sd := kS2 Sd hb
  replace Fo := kFf2 Fo Ko hb
  have Fq : Hid (Fw w6 w5.heap.size) := Fw.keep (Fw.keep (Fw.fresh (by simp) _ _) (Cw.fresh (by simp) _ _ _ _ _) (blw1 _ _)) (Cw.keep (Cw.fresh (by simp) _ _ _ _ _) (blw1 _ _)) hb
  have Fd : Hid (Fw w6 (w5.heap.size + 1)) := Fw.keep (Fw.fresh (by simp) _ _) (Cw.fresh (by simp) _ _ _ _ _) hb
  replace Ko := kF2 Ko hb
  replace Ke := kC2 Ke hb
  have Kq : Hid (Cw w6 w5.heap.size nh A1 lh.length c1) := Cw.keep (Cw.keep (Cw.fresh (by simp) _ _ _ _ _) (blw1 _ _)) hb
  have Kd : Hid (Cw w6 (w5.heap.size + 1) no A2 lo.length c2) := Cw.keep (Cw.fresh (by simp) _ _ _ _ _) hb
  replace B := kB2 B hb
  clear hb
  replace hzo := lF Ko
  replace hze := lC Ke
  have hzq := lW Kq
  have hzd := lW Kd
  go_wp2_with fail
  refine (form_ok _).mono ?_
  rintro e w7 ⟨rfl, hb⟩
  replace Sq := kS Sq hb
  replace Sd := kS Sd hb
  replace Fo := kFf Fo Ko hb
  replace Fq := kFw Fq Kq hb
  replace Fd := kFw Fd Kd hb
  replace Ko := kF Ko hb
  replace Ke := kC Ke hb
  replace Kq := kW Kq hb
  replace Kd := kW Kd hb
  replace B := kB B hb
  clear hb
  replace hzo := lF Ko
  replace hze := lC Ke
  replace hzq := lW Kq
  replace hzd := lW Kd
  go_wp2_with fail
  refine (hS.out _).mono ?_
  rintro e w8 ⟨rfl, hb⟩
  replace Sq := kS Sq hb
  replace Sd := kS Sd hb
  replace Fo := kFf Fo Ko hb
  replace Fq := kFw Fq Kq hb
  replace Fd := kFw Fd Kd hb
  replace Ko := kF Ko hb
  replace Ke := kC Ke hb
  replace Kq := kW Kq hb
  replace Kd := kW Kd hb
  replace B := kB B hb
  clear hb
  replace hzo := lF Ko
  replace hze := lC Ke
  replace hzq := lW Kq
  replace hzd := lW Kd
  obtain ⟨qq0, qq1⟩ := Kq.out
  obtain ⟨fq0, fq1⟩ := Fq.out
  go_wp2_with fail
  refine (hV2.out _ _ (cat_eq _ _)).mono ?_
  rintro e w9 ⟨A3, c3, rfl, hs3, hb⟩
  clear qq0 qq1 fq0 fq1
  replace Sq := kS Sq hb
  replace Sd := kS Sd hb
  replace Fo := kFf Fo Ko hb
  replace Fq := kFw Fq Kq hb
  replace Fd := kFw Fd Kd hb
  replace Ko := kF Ko hb
  replace Ke := kC Ke hb
  replace Kq := kW Kq hb
  replace Kd := kW Kd hb
  replace B := kB B hb
  clear hb
  (try dsimp only at hs3)
  (try dsimp only)
  clear Sq
  have Sq : Hid (Sl w9 A3 la c3) := hs3
  clear hs3
  obtain ⟨qq0, qq1⟩ := Kq.out
  obtain ⟨fq0, fq1⟩ := Fq.out
  replace hzo := lF Ko
  replace hze := lC Ke
  replace hzq := lW Kq
  replace hzd := lW Kd
  go_wp2_with fail
  replace Sd : Hid (Sl (((w9.setCell ⟨w5.heap.size, 0, none⟩ (.bool na)).setCell ⟨w5.heap.size, 1, none⟩ (.slice A3 la.length c3))) A2 lo c2) := (Sd.out.setW Kq.out.1 Kq.out.2 _ _)
  replace Sq : Hid (Sl (((w9.setCell ⟨w5.heap.size, 0, none⟩ (.bool na)).setCell ⟨w5.heap.size, 1, none⟩ (.slice A3 la.length c3))) A3 la c3) := (Sq.out.setW Kq.out.1 Kq.out.2 _ _)
  replace Fo : Hid (Ff (((w9.setCell ⟨w5.heap.size, 0, none⟩ (.bool na)).setCell ⟨w5.heap.size, 1, none⟩ (.slice A3 la.length c3))) w.heap.size) := (Ff.setW Fo.out _ _)
  replace Fq : Hid (Fw (((w9.setCell ⟨w5.heap.size, 0, none⟩ (.bool na)).setCell ⟨w5.heap.size, 1, none⟩ (.slice A3 la.length c3))) w5.heap.size) := (Fw.setW Fq.out _ _)
  replace Fd : Hid (Fw (((w9.setCell ⟨w5.heap.size, 0, none⟩ (.bool na)).setCell ⟨w5.heap.size, 1, none⟩ (.slice A3 la.length c3))) (w5.heap.size + 1)) := (Fw.setW Fd.out _ _)
  replace Ko : Hid (Cf (((w9.setCell ⟨w5.heap.size, 0, none⟩ (.bool na)).setCell ⟨w5.heap.size, 1, none⟩ (.slice A3 la.length c3))) w.heap.size false none 0 0 false none 0 0) := (Cf.setW Ko.out (by omega) _ _)
  replace Ke : Hid (C1 (((w9.setCell ⟨w5.heap.size, 0, none⟩ (.bool na)).setCell ⟨w5.heap.size, 1, none⟩ (.slice A3 la.length c3))) (w.heap.size + 1) (.int .i64 0)) := (C1.setW Ke.out (by omega) _ _)
  replace Kq : Hid (Cw (((w9.setCell ⟨w5.heap.size, 0, none⟩ (.bool na)).setCell ⟨w5.heap.size, 1, none⟩ (.slice A3 la.length c3))) w5.heap.size na A3 la.length c3) := (Cw.new Kq.out)
  replace Kd : Hid (Cw (((w9.setCell ⟨w5.heap.size, 0, none⟩ (.bool na)).setCell ⟨w5.heap.size, 1, none⟩ (.slice A3 la.length c3))) (w5.heap.size + 1) no A2 lo.length c2) := (Cw.setW Kd.out (by omega) _ _)
  replace B : Hid (Below w.heap.size w (((w9.setCell ⟨w5.heap.size, 0, none⟩ (.bool na)).setCell ⟨w5.heap.size, 1, none⟩ (.slice A3 la.length c3)))) := (below_setW B.out (by omega) _ _)
  clear qq0 qq1 fq0 fq1
  generalize (((w9.setCell ⟨w5.heap.size, 0, none⟩ (.bool na)).setCell ⟨w5.heap.size, 1, none⟩ (.slice A3 la.length c3))) = wz at *
  have hzo := lF Ko
  have hze := lC Ke
  have hzq := lW Kq
  have hzd := lW Kd
  have KoY : Hid (Cf wz.drew w.heap.size false none 0 0 false none 0 0) := Ko.out
  have FoY : Hid (Ff wz.drew w.heap.size) := Fo.out
  have KeY : Hid (C1 wz.drew (w.heap.size + 1) (.int .i64 0)) := Ke.out
  have KqY : Hid (Cw wz.drew w5.heap.size na A3 la.length c3) := Kq.out
  have FqY : Hid (Fw wz.drew w5.heap.size) := Fq.out
  have KdY : Hid (Cw wz.drew (w5.heap.size + 1) no A2 lo.length c2) := Kd.out
  have FdY : Hid (Fw wz.drew (w5.heap.size + 1)) := Fd.out
  have SdY : Hid (Sl wz.drew A2 lo c2) := Sl.drew Sd.out
  have SqY : Hid (Sl wz.drew A3 la c3) := Sl.drew Sq.out
  have BY : Hid (Below w.heap.size w wz.drew) := Below.drew B.out
  obtain ⟨oq0, oq1⟩ := Kq.out
  obtain ⟨pq0, pq1⟩ := Fq.out
  refine wp_region_noPanic ?_
  go_region_with (first
    | (go_at_call 55; refine (hT.out _ _ (by have := hj2.out; simp at this; omega)).mono ?_; rintro e x1 ⟨A7, c7, rfl, hs7, hb⟩; (try dsimp only at hs7); (try dsimp only); have Stx1 : Hid (Sl x1 A7 lt c7) := hs7; have Fox1 := Lib.hid (Ff.keep FoY.out KoY.out hb); have Kox1 := Lib.hid (KoY.out.keep hb); have Kex1 := Lib.hid (KeY.out.keep hb); have Fqx1 := Lib.hid (Fw.keep FqY.out KqY.out hb); have Kqx1 := Lib.hid (KqY.out.keep hb); have Fdx1 := Lib.hid (Fw.keep FdY.out KdY.out hb); have Kdx1 := Lib.hid (KdY.out.keep hb); have Sdx1 := Lib.hid (SdY.out.below hb); have Sqx1 := Lib.hid (SqY.out.below hb); have Bx1 := Lib.hid (below_mono BY.out hb); obtain ⟨oq0x1, oq1x1⟩ := Kqx1.out; obtain ⟨pq0x1, pq1x1⟩ := Fqx1.out; clear hb hs7)
    | (go_at_call 54; refine (wmul_any na nt _ _ la lt _ _ _ Sqx1.out Stx1.out).mono ?_; rw [hME.out]; rintro e x2 ⟨A5, c5, rfl, hs5, hb⟩; (try dsimp only at hs5); (try dsimp only); have Sux2 : Hid (Sl x2 A5 le c5) := hs5; have Fox2 := Lib.hid (Ff.keep Fox1.out Kox1.out hb); have Kox2 := Lib.hid (Kox1.out.keep hb); have Kex2 := Lib.hid (Kex1.out.keep hb); have Fqx2 := Lib.hid (Fw.keep Fqx1.out Kqx1.out hb); have Kqx2 := Lib.hid (Kqx1.out.keep hb); have Fdx2 := Lib.hid (Fw.keep Fdx1.out Kdx1.out hb); have Kdx2 := Lib.hid (Kdx1.out.keep hb); have Sdx2 := Lib.hid (Sdx1.out.below hb); have Sqx2 := Lib.hid (Sqx1.out.below hb); have Stx2 := Lib.hid (Stx1.out.below hb); have Bx2 := Lib.hid (below_mono Bx1.out hb); clear hb hs5)
    | (go_at_call 53; refine (must_ok ne A5 le.length c5 _).mono ?_; rintro e x3 ⟨rfl, hb⟩; (try dsimp only); have Fox3 := Lib.hid (Ff.keep Fox2.out Kox2.out hb); have Kox3 := Lib.hid (Kox2.out.keep hb); have Kex3 := Lib.hid (Kex2.out.keep hb); have Fqx3 := Lib.hid (Fw.keep Fqx2.out Kqx2.out hb); have Kqx3 := Lib.hid (Kqx2.out.keep hb); have Fdx3 := Lib.hid (Fw.keep Fdx2.out Kdx2.out hb); have Kdx3 := Lib.hid (Kdx2.out.keep hb); have Sdx3 := Lib.hid (Sdx2.out.below hb); have Sqx3 := Lib.hid (Sqx2.out.below hb); have Stx3 := Lib.hid (Stx2.out.below hb); have Sux3 := Lib.hid (Sux2.out.below hb); have Bx3 := Lib.hid (below_mono Bx2.out hb); obtain ⟨oq0x3, oq1x3⟩ := Kqx3.out; obtain ⟨pq0x3, pq1x3⟩ := Fqx3.out; clear hb))
  all_goals
    refine NoPanic.normal ?_
    have Ko := Kox3; have Fo := Fox3
    have Ke := Kex3
    have Kq := Kqx3; have Fq := Fqx3
    have Kd := Kdx3; have Fd := Fdx3
    have Sd := Sdx3
    have Sq := Sqx3
    have St := Stx3
    have Su := Sux3
    have B := Bx3
    clear Sq
    clear St
    have Sq := Su
    replace hzo := lF Ko
    replace hze := lC Ke
    replace hzq := lW Kq
    replace hzd := lW Kd
    obtain ⟨qq0, qq1⟩ := Kq.out
    obtain ⟨fq0, fq1⟩ := Fq.out
    obtain ⟨qd0, qd1⟩ := Kd.out
    obtain ⟨fd0, fd1⟩ := Fd.out
    go_wp2_with fail
    · refine (neg_any ne _ le _ _ (Sq.out.setW Kq.out.1 Kq.out.2 _ _)).mono ?_
      rw [hN.out]
      rintro e w10 ⟨A6, c6, rfl, hs6, hb⟩
      clear qq0 qq1 fq0 fq1 qd0 qd1 fd0 fd1
      replace Sd : Hid (Sl w10 A2 lo c2) := Sl.below (Sd.out.setW Kq.out.1 Kq.out.2 _ _) hb
      replace Sq : Hid (Sl w10 A5 le c5) := Sl.below (Sq.out.setW Kq.out.1 Kq.out.2 _ _) hb
      replace Fo : Hid (Ff w10 w.heap.size) := Ff.keep (Ff.setW Fo.out _ _) (Cf.setW Ko.out (by omega) _ _) hb
      replace Fq : Hid (Fw w10 w5.heap.size) := Fw.keep (Fw.setW Fq.out _ _) (Cw.new Kq.out) hb
      replace Fd : Hid (Fw w10 (w5.heap.size + 1)) := Fw.keep (Fw.setW Fd.out _ _) (Cw.setW Kd.out (by omega) _ _) hb
      replace Ko : Hid (Cf w10 w.heap.size false none 0 0 false none 0 0) := Cf.keep (Cf.setW Ko.out (by omega) _ _) hb
      replace Ke : Hid (C1 w10 (w.heap.size + 1) (.int .i64 0)) := C1.keep (C1.setW Ke.out (by omega) _ _) hb
      replace Kq : Hid (Cw w10 w5.heap.size ne A5 le.length c5) := Cw.keep (Cw.new Kq.out) hb
      replace Kd : Hid (Cw w10 (w5.heap.size + 1) no A2 lo.length c2) := Cw.keep (Cw.setW Kd.out (by omega) _ _) hb
      replace B : Hid (Below w.heap.size w w10) := below_mono (below_setW B.out (by omega) _ _) hb
      clear hb
      (try dsimp only at hs6)
      (try dsimp only)
      have Sn : Hid (Sl w10 A6 ln c6) := hs6
      clear hs6
      obtain ⟨qq0, qq1⟩ := Kq.out
      obtain ⟨fq0, fq1⟩ := Fq.out
      obtain ⟨qd0, qd1⟩ := Kd.out
      obtain ⟨fd0, fd1⟩ := Fd.out
      replace hzo := lF Ko
      replace hze := lC Ke
      replace hzq := lW Kq
      replace hzd := lW Kd
      go_wp2_with fail
      refine (must_ok nn A6 ln.length c6 _).mono ?_
      rintro e w11 ⟨rfl, hb⟩
      clear qq0 qq1 fq0 fq1 qd0 qd1 fd0 fd1
      replace Sd := kS Sd hb
      replace Sq := kS Sq hb
      replace Sn := kS Sn hb
      replace Fo := kFf Fo Ko hb
      replace Fq := kFw Fq Kq hb
      replace Fd := kFw Fd Kd hb
      replace Ko := kF Ko hb
      replace Ke := kC Ke hb
      replace Kq := kW Kq hb
      replace Kd := kW Kd hb
      replace B := kB B hb
      clear hb
      obtain ⟨qq0, qq1⟩ := Kq.out
      obtain ⟨fq0, fq1⟩ := Fq.out
      obtain ⟨qd0, qd1⟩ := Kd.out
      obtain ⟨fd0, fd1⟩ := Fd.out
      replace hzo := lF Ko
      replace hze := lC Ke
      replace hzq := lW Kq
      replace hzd := lW Kd
      clear Sq
      have Sq := Sn
      go_wp2_with fail
      refine (make_any nn no _ _ ln lo _ _ _ (Sq.out.setW Kq.out.1 Kq.out.2 _ _) (Sd.out.setW Kq.out.1 Kq.out.2 _ _)).mono ?_
      rw [hM1.out (by assumption)]
      rintro e w12 ⟨A8, c8, A9, c9, rfl, hs8, hs9, hb⟩
      clear qq0 qq1 fq0 fq1 qd0 qd1 fd0 fd1
      replace Sd : Hid (Sl w12 A2 lo c2) := Sl.below (Sd.out.setW Kq.out.1 Kq.out.2 _ _) hb
      replace Sq : Hid (Sl w12 A6 ln c6) := Sl.below (Sq.out.setW Kq.out.1 Kq.out.2 _ _) hb
      replace Fo : Hid (Ff w12 w.heap.size) := Ff.keep (Ff.setW Fo.out _ _) (Cf.setW Ko.out (by omega) _ _) hb
      replace Fq : Hid (Fw w12 w5.heap.size) := Fw.keep (Fw.setW Fq.out _ _) (Cw.new Kq.out) hb
      replace Fd : Hid (Fw w12 (w5.heap.size + 1)) := Fw.keep (Fw.setW Fd.out _ _) (Cw.setW Kd.out (by omega) _ _) hb
      replace Ko : Hid (Cf w12 w.heap.size false none 0 0 false none 0 0) := Cf.keep (Cf.setW Ko.out (by omega) _ _) hb
      replace Ke : Hid (C1 w12 (w.heap.size + 1) (.int .i64 0)) := C1.keep (C1.setW Ke.out (by omega) _ _) hb
      replace Kq : Hid (Cw w12 w5.heap.size nn A6 ln.length c6) := Cw.keep (Cw.new Kq.out) hb
      replace Kd : Hid (Cw w12 (w5.heap.size + 1) no A2 lo.length c2) := Cw.keep (Cw.setW Kd.out (by omega) _ _) hb
      replace B : Hid (Below w.heap.size w w12) := below_mono (below_setW B.out (by omega) _ _) hb
      clear hb
      (try dsimp only at hs8 hs9)
      (try dsimp only)
      have Sx : Hid (Sl w12 A8 lx c8) := hs8
      clear hs8
      have Sy : Hid (Sl w12 A9 ly c9) := hs9
      clear hs9
      obtain ⟨qo0, qo1, qo2, qo3⟩ := Ko.out
      obtain ⟨fo0, fo1, fo2, fo3⟩ := Fo.out
      obtain ⟨qe0, qe1⟩ := Ke.out
      replace hzo := lF Ko
      replace hze := lC Ke
      replace hzq := lW Kq
      replace hzd := lW Kd
      go_wp2_with fail
      refine leaves_cons (f := 46) (args := #[.pointer (some ⟨w.heap.size + 1, 0, none⟩)]) (by simp) (by simp [go_sem]) ?_
      refine (catch_idle ⟨w.heap.size + 1, 0, none⟩ _).mono ?_
      rintro e u' w'' ⟨rfl, rfl, rfl⟩
      simp [Leaves, settle, results, Tryz.results10, go_sem, qo0, qo1, qo2, qo3, qe0]
      exact fres_store (r := ((nx, lx), (ny, ly))) kk Sx.out Sy.out Ko.out Ke.out (by omega) B.out (by omega) (by omega) _ _ _ _ _
    · refine (make_any ne no _ _ le lo _ _ _ (Sq.out.setW Kq.out.1 Kq.out.2 _ _) (Sd.out.setW Kq.out.1 Kq.out.2 _ _)).mono ?_
      rw [hM0.out (by assumption)]
      rintro e w10 ⟨A8, c8, A9, c9, rfl, hs8, hs9, hb⟩
      clear qq0 qq1 fq0 fq1 qd0 qd1 fd0 fd1
      replace Sd : Hid (Sl w10 A2 lo c2) := Sl.below (Sd.out.setW Kq.out.1 Kq.out.2 _ _) hb
      replace Sq : Hid (Sl w10 A5 le c5) := Sl.below (Sq.out.setW Kq.out.1 Kq.out.2 _ _) hb
      replace Fo : Hid (Ff w10 w.heap.size) := Ff.keep (Ff.setW Fo.out _ _) (Cf.setW Ko.out (by omega) _ _) hb
      replace Fq : Hid (Fw w10 w5.heap.size) := Fw.keep (Fw.setW Fq.out _ _) (Cw.new Kq.out) hb
      replace Fd : Hid (Fw w10 (w5.heap.size + 1)) := Fw.keep (Fw.setW Fd.out _ _) (Cw.setW Kd.out (by omega) _ _) hb
      replace Ko : Hid (Cf w10 w.heap.size false none 0 0 false none 0 0) := Cf.keep (Cf.setW Ko.out (by omega) _ _) hb
      replace Ke : Hid (C1 w10 (w.heap.size + 1) (.int .i64 0)) := C1.keep (C1.setW Ke.out (by omega) _ _) hb
      replace Kq : Hid (Cw w10 w5.heap.size ne A5 le.length c5) := Cw.keep (Cw.new Kq.out) hb
      replace Kd : Hid (Cw w10 (w5.heap.size + 1) no A2 lo.length c2) := Cw.keep (Cw.setW Kd.out (by omega) _ _) hb
      replace B : Hid (Below w.heap.size w w10) := below_mono (below_setW B.out (by omega) _ _) hb
      clear hb
      (try dsimp only at hs8 hs9)
      (try dsimp only)
      have Sx : Hid (Sl w10 A8 lx c8) := hs8
      clear hs8
      have Sy : Hid (Sl w10 A9 ly c9) := hs9
      clear hs9
      obtain ⟨qo0, qo1, qo2, qo3⟩ := Ko.out
      obtain ⟨fo0, fo1, fo2, fo3⟩ := Fo.out
      obtain ⟨qe0, qe1⟩ := Ke.out
      replace hzo := lF Ko
      replace hze := lC Ke
      replace hzq := lW Kq
      replace hzd := lW Kd
      go_wp2_with fail
      refine leaves_cons (f := 46) (args := #[.pointer (some ⟨w.heap.size + 1, 0, none⟩)]) (by simp) (by simp [go_sem]) ?_
      refine (catch_idle ⟨w.heap.size + 1, 0, none⟩ _).mono ?_
      rintro e u' w'' ⟨rfl, rfl, rfl⟩
      simp [Leaves, settle, results, Tryz.results10, go_sem, qo0, qo1, qo2, qo3, qe0]
      exact fres_store (r := ((nx, lx), (ny, ly))) kk Sx.out Sy.out Ko.out Ke.out (by omega) B.out (by omega) (by omega) _ _ _ _ _

set_option maxRecDepth 100000 in
set_option maxHeartbeats 2000000 in
theorem parse_not_up (l : List UInt8) (h : l.length ≤ 200) (m : Bool) (r q t : List UInt8) (b : UInt8) (hm : hasPrefix l [45] = m) (hr : trimPrefix l [45] = r) (hh : headD r = b :: t) (hq : tailD r = q) (hp2 : hasPrefix q [47] = false) (hp3 : hasPrefix q [46] = false) (k : Int) (hs : sciS q = some k) (j : Nat) (hj : k - (([] : List UInt8).length : Int) = (j : Int)) (w : World) :
    Calls Tryz.prog 10 #[.string ⟨l.toArray⟩] w (FRes (ofS (sgn m ((dv ((b :: t) ++ ([] : List UInt8))) * 10 ^ j)) 1) w) := by
  have B : Hid (Below w.heap.size w w) := Below.refl _ _
  have d0 : decide (l.length ≤ 200) = true := decide_eq_true h
  have d1 : decide ((l.length : Int) ≤ 200) = true := decide_eq_true (by omega)
  have hl : l.length ≤ 3000 := by omega
  have hlr : r.length ≤ 200 := by rw [← hr]; exact Nat.le_trans (trimP_len _ _) h
  have hdh : Dig (b :: t) := hh ▸ headD_dig r
  have hll : (b :: t).length + q.length ≤ 200 := by rw [← hh, ← hq, headD_len]; exact hlr
  obtain ⟨⟨nh, lh⟩, hvh⟩ : ∃ p, p = wOf ((dv (b :: t) : Nat) : Int) := ⟨_, rfl⟩
  obtain ⟨⟨no, lo⟩, hvo⟩ : ∃ p, p = wOf (1 : Int) := ⟨_, rfl⟩
  have vo : VZ no lo 1 := vz_mk hvo fit_one
  have hC1 : Hid (∀ W, Calls Tryz.prog 48 #[.string ⟨(l : List UInt8).toArray⟩, .string ⟨#[45]⟩] W fun e w' => e = .returned (.tuple #[.string ⟨(r : List UInt8).toArray⟩, .bool m]) ∧ W = w') := fun W => by rw [← hr, ← hm]; exact cut_any l [45] W
  have hD1 : Hid (∀ W, Calls Tryz.prog 49 #[.string ⟨(r : List UInt8).toArray⟩] W fun e w' => e = .returned (.tuple #[.string ⟨(b :: t : List UInt8).toArray⟩, .string ⟨(q : List UInt8).toArray⟩]) ∧ Below W.heap.size W w') := fun W => by rw [← hh, ← hq]; exact digits_any r (by omega) W
  have hV1 : Hid (∀ s W, s = (ByteArray.mk (b :: t : List UInt8).toArray) → Calls Tryz.prog 50 #[.string s] W (WRes1 (nh, lh) W)) := fun s W hs => by rw [hs, hvh]; exact value_any _ hdh (by omega) W
  have hO : Hid (∀ W, Calls Tryz.prog 51 #[] W (WRes1 (no, lo) W)) := fun W => by rw [hvo]; exact one_any W
  have hq47 : trimPrefix q [47] = q := by unfold trimPrefix; rw [hp2]; rfl
  have hC2 : Hid (∀ W, Calls Tryz.prog 48 #[.string ⟨(q : List UInt8).toArray⟩, .string ⟨#[47]⟩] W fun e w' => e = .returned (.tuple #[.string ⟨(q : List UInt8).toArray⟩, .bool false]) ∧ W = w') := fun W => by have := cut_any q [47] W; rw [hq47, hp2] at this; exact this
  clear hq47
  have hq46 : trimPrefix q [46] = q := by unfold trimPrefix; rw [hp3]; rfl
  have hC3 : Hid (∀ W, Calls Tryz.prog 48 #[.string ⟨(q : List UInt8).toArray⟩, .string ⟨#[46]⟩] W fun e w' => e = .returned (.tuple #[.string ⟨(q : List UInt8).toArray⟩, .bool false]) ∧ W = w') := fun W => by have := cut_any q [46] W; rw [hq46, hp3] at this; exact this
  clear hq46
  have hdp : Dig ([] : List UInt8) := dig_nil
  have hkb := sci_bd hs
  have hS : Hid (∀ W, Calls Tryz.prog 52 #[.string ⟨q.toArray⟩] W fun e w' => e = .returned (.int .i64 k) ∧ Below W.heap.size W w') := fun W => sci_ok q (by simp at hll; omega) k hs W
  have htl : t.length ≤ 200 := by simp at hll; omega
  have hla : ((b :: t) ++ ([] : List UInt8)).length ≤ 200 := by simp at hll ⊢; omega
  have hda : Dig ((b :: t) ++ ([] : List UInt8)) := dig_append hdh hdp
  have hjb : j ≤ 1300 := by simp at hj; omega
  obtain ⟨⟨na, la⟩, hva⟩ : ∃ p, p = wOf ((dv ((b :: t) ++ ([] : List UInt8)) : Nat) : Int) := ⟨_, rfl⟩
  have va := vz_mk hva (fit_dv hda (by omega))
  have hV2 : Hid (∀ s W, s = (ByteArray.mk ((b :: t) ++ ([] : List UInt8) : List UInt8).toArray) → Calls Tryz.prog 50 #[.string s] W (WRes1 (na, la) W)) := fun s W hs => by rw [hs, hva]; exact value_any _ hda (by omega) W
  obtain ⟨⟨nt, lt⟩, hvt⟩ : ∃ p, p = p10 j := ⟨_, rfl⟩
  have vt : VZ nt lt ((10 : Int) ^ j) := vz_mk hvt (fit_pow10 (by omega))
  have hT : Hid (∀ z W, z = (j : Int) → Calls Tryz.prog 55 #[.int .i64 z] W (WRes1 (nt, lt) W)) := fun z W hz => by rw [hz, hvt]; exact ten_any j (by omega) W
  obtain ⟨⟨ne, le⟩, hve⟩ : ∃ p, p = wOf (((((dv ((b :: t) ++ ([] : List UInt8))) * 10 ^ j) : Nat)) : Int) := ⟨_, rfl⟩
  have fz : fitZ ((((dv ((b :: t) ++ ([] : List UInt8))) * 10 ^ j) : Nat) : Int) := fit_ten (k := 200 + j) (by rw [Int.natAbs_natCast, Nat.pow_add]; exact Nat.mul_le_mul_right _ (Nat.le_of_lt (Nat.lt_of_lt_of_le (dv_lt hda) (Nat.pow_le_pow_right (by omega) hla)))) (by omega)
  have ve := vz_mk hve fz
  have hzz : (((((dv ((b :: t) ++ ([] : List UInt8))) * 10 ^ j) : Nat)) : Int) = (((dv ((b :: t) ++ ([] : List UInt8))) : Nat) : Int) * (10 : Int) ^ j := by rw [Int.natCast_mul, Int.natCast_pow]; rfl
  have hME : Hid (mulS na la nt lt = ((ne, le), 0)) := by have := mulS_z va vt (by rw [← hzz]; exact fz); rw [Hid, this, ← hzz, hve]
  clear hzz
  obtain ⟨⟨⟨⟨nx, lx⟩, ⟨ny, ly⟩⟩, kk⟩, hR⟩ : ∃ p, p = ofS (sgn m ((dv ((b :: t) ++ ([] : List UInt8))) * 10 ^ j)) 1 := ⟨_, rfl⟩
  obtain ⟨⟨nn, ln⟩, hn⟩ : ∃ p, p = wOf (-((((dv ((b :: t) ++ ([] : List UInt8))) * 10 ^ j) : Nat) : Int)) := ⟨_, rfl⟩
  have hN : Hid (negS ne le = ((nn, ln), 0)) := by rw [hn]; exact negS_z ve
  have vn : VZ nn ln (-((((dv ((b :: t) ++ ([] : List UInt8))) * 10 ^ j) : Nat) : Int)) := vz_mk hn (fit_mono (by simp) ve.2)
  have hM0 : Hid (m = false → makeS ne le no lo = (((nx, lx), (ny, ly)), kk)) := fun hm0 => by rw [make_good ve vo, hR, hm0]; rfl
  have hM1 : Hid (m = true → makeS nn ln no lo = (((nx, lx), (ny, ly)), kk)) := fun hm1 => by rw [make_good vn vo, hR, hm1]; rfl
  rw [← hR]
  have dp1 : decide ((0 : Int) ≤ k) = true := decide_eq_true (by simp at hj; omega)
  have dp2 : decide (0 ≤ k - (0 : Int)) = true := decide_eq_true (by simp at hj; omega)
  have hj2 := Lib.hid hj
  clear hm hr hh hq hvh hvo hlr h hl hp2 hp3 hs hll hdh vo hdp hla hda hva va hvt vt hve fz ve vn hn hR hj
  go_enter_defers Tryz.func10, Tryz.ntmps10
  go_wp2_with fail
  refine (form_ok _).mono ?_
  rintro e w1 ⟨rfl, hb⟩
  have Fo : Hid (Ff w1 w.heap.size) := Ff.keep (Ff.keep (Ff.fresh (by simp) _ _) (Cf.fresh (by simp) _ _ _ _ _ _ _ _ _) (blw1 _ _)) (Cf.keep (Cf.fresh (by simp) _ _ _ _ _ _ _ _ _) (blw1 _ _)) hb
  have Ko : Hid (Cf w1 w.heap.size false none 0 0 false none 0 0) := Cf.keep (Cf.keep (Cf.fresh (by simp) _ _ _ _ _ _ _ _ _) (blw1 _ _)) hb
  have Ke : Hid (C1 w1 (w.heap.size + 1) (.int .i64 0)) := C1.keep (C1.fresh (by simp) _ _) hb
  replace B := kB2 B hb
  clear hb
  have hzo := lF Ko
  have hze := lC Ke
  go_wp2_with fail
  refine (hC1.out _).mono ?_
  rintro e w' ⟨rfl, rfl⟩
  go_wp2_with fail
  refine (hD1.out _).mono ?_
  rintro e w2 ⟨rfl, hb⟩
  replace Fo := kFf Fo Ko hb
  replace Ko := kF Ko hb
  replace Ke := kC Ke hb
  replace B := kB B hb
  clear hb
  replace hzo := lF Ko
  replace hze := lC Ke
  go_wp2_with fail
  refine (form_ok _).mono ?_
  rintro e w3 ⟨rfl, hb⟩
  replace Fo := kFf Fo Ko hb
  replace Ko := kF Ko hb
  replace Ke := kC Ke hb
  replace B := kB B hb
  clear hb
  replace hzo := lF Ko
  replace hze := lC Ke
  go_wp2_with fail
  refine (hV1.out _ _ rfl).mono ?_
  rintro e w4 ⟨A1, c1, rfl, hs1, hb⟩
  replace Fo := kFf Fo Ko hb
  replace Ko := kF Ko hb
  replace Ke := kC Ke hb
  replace B := kB B hb
  clear hb
  (try dsimp only at hs1)
  (try dsimp only)
  have Sq : Hid (Sl w4 A1 lh c1) := hs1
  clear hs1
  replace hzo := lF Ko
  replace hze := lC Ke
  go_wp2_with fail
  refine (hO.out _).mono ?_
  rintro e w5 ⟨A2, c2, rfl, hs2, hb⟩
  replace Sq := kS Sq hb
  replace Fo := kFf Fo Ko hb
  replace Ko := kF Ko hb
  replace Ke := kC Ke hb
  replace B := kB B hb
  clear hb
  (try dsimp only at hs2)
  (try dsimp only)
  have Sd : Hid (Sl w5 A2 lo c2) := hs2
  clear hs2
  replace hzo := lF Ko
  replace hze := lC Ke
  have hkoq := hzo
  have hkeq := hze
  have hkod := hzo
  have hked := hze
  go_wp2_with fail
  refine (hC2.out _).mono ?_
  rintro e w' ⟨rfl, rfl⟩
  go_wp2_with fail
  refine (hC3.out _).mono ?_
  rintro e w' ⟨rfl, rfl⟩
  go_wp2_with fail
  refine (hS.out _).mono ?_
  rintro e w6 ⟨rfl, hb⟩
  replace Sq := kS2 Sq hb
  replace Sd := kS2 Sd hb
  replace Fo := kFf2 Fo Ko hb
  have Fq : Hid (Fw w6 w5.heap.size) := Fw.keep (Fw.keep (Fw.fresh (by simp) _ _) (Cw.fresh (by simp) _ _ _ _ _) (blw1 _ _)) (Cw.keep (Cw.fresh (by simp) _ _ _ _ _) (blw1 _ _)) hb
  have Fd : Hid (Fw w6 (w5.heap.size + 1)) := Fw.keep (Fw.fresh (by simp) _ _) (Cw.fresh (by simp) _ _ _ _ _) hb
  replace Ko := kF2 Ko hb
  replace Ke := kC2 Ke hb
  have Kq : Hid (Cw w6 w5.heap.size nh A1 lh.length c1) := Cw.keep (Cw.keep (Cw.fresh (by simp) _ _ _ _ _) (blw1 _ _)) hb
  have Kd : Hid (Cw w6 (w5.heap.size + 1) no A2 lo.length c2) := Cw.keep (Cw.fresh (by simp) _ _ _ _ _) hb
  replace B := kB2 B hb
  clear hb
  replace hzo := lF Ko
  replace hze := lC Ke
  have hzq := lW Kq
  have hzd := lW Kd
  obtain ⟨qq0, qq1⟩ := Kq.out
  obtain ⟨fq0, fq1⟩ := Fq.out
  have hcat : (ByteArray.mk (b :: t).toArray) ++ (ByteArray.mk #[]) = ⟨((b :: t) ++ ([] : List UInt8)).toArray⟩ := cat_eq (b :: t) []
  go_wp2_with fail
  refine (hV2.out _ _ (by first | exact hcat | simp)).mono ?_
  rintro e w7 ⟨A3, c3, rfl, hs3, hb⟩
  clear qq0 qq1 fq0 fq1
  replace Sq := kS Sq hb
  replace Sd := kS Sd hb
  replace Fo := kFf Fo Ko hb
  replace Fq := kFw Fq Kq hb
  replace Fd := kFw Fd Kd hb
  replace Ko := kF Ko hb
  replace Ke := kC Ke hb
  replace Kq := kW Kq hb
  replace Kd := kW Kd hb
  replace B := kB B hb
  clear hb
  (try dsimp only at hs3)
  (try dsimp only)
  clear hcat
  clear Sq
  have Sq : Hid (Sl w7 A3 la c3) := hs3
  clear hs3
  obtain ⟨qq0, qq1⟩ := Kq.out
  obtain ⟨fq0, fq1⟩ := Fq.out
  replace hzo := lF Ko
  replace hze := lC Ke
  replace hzq := lW Kq
  replace hzd := lW Kd
  go_wp2_with fail
  replace Sd : Hid (Sl (((w7.setCell ⟨w5.heap.size, 0, none⟩ (.bool na)).setCell ⟨w5.heap.size, 1, none⟩ (.slice A3 la.length c3))) A2 lo c2) := (Sd.out.setW Kq.out.1 Kq.out.2 _ _)
  replace Sq : Hid (Sl (((w7.setCell ⟨w5.heap.size, 0, none⟩ (.bool na)).setCell ⟨w5.heap.size, 1, none⟩ (.slice A3 la.length c3))) A3 la c3) := (Sq.out.setW Kq.out.1 Kq.out.2 _ _)
  replace Fo : Hid (Ff (((w7.setCell ⟨w5.heap.size, 0, none⟩ (.bool na)).setCell ⟨w5.heap.size, 1, none⟩ (.slice A3 la.length c3))) w.heap.size) := (Ff.setW Fo.out _ _)
  replace Fq : Hid (Fw (((w7.setCell ⟨w5.heap.size, 0, none⟩ (.bool na)).setCell ⟨w5.heap.size, 1, none⟩ (.slice A3 la.length c3))) w5.heap.size) := (Fw.setW Fq.out _ _)
  replace Fd : Hid (Fw (((w7.setCell ⟨w5.heap.size, 0, none⟩ (.bool na)).setCell ⟨w5.heap.size, 1, none⟩ (.slice A3 la.length c3))) (w5.heap.size + 1)) := (Fw.setW Fd.out _ _)
  replace Ko : Hid (Cf (((w7.setCell ⟨w5.heap.size, 0, none⟩ (.bool na)).setCell ⟨w5.heap.size, 1, none⟩ (.slice A3 la.length c3))) w.heap.size false none 0 0 false none 0 0) := (Cf.setW Ko.out (by omega) _ _)
  replace Ke : Hid (C1 (((w7.setCell ⟨w5.heap.size, 0, none⟩ (.bool na)).setCell ⟨w5.heap.size, 1, none⟩ (.slice A3 la.length c3))) (w.heap.size + 1) (.int .i64 0)) := (C1.setW Ke.out (by omega) _ _)
  replace Kq : Hid (Cw (((w7.setCell ⟨w5.heap.size, 0, none⟩ (.bool na)).setCell ⟨w5.heap.size, 1, none⟩ (.slice A3 la.length c3))) w5.heap.size na A3 la.length c3) := (Cw.new Kq.out)
  replace Kd : Hid (Cw (((w7.setCell ⟨w5.heap.size, 0, none⟩ (.bool na)).setCell ⟨w5.heap.size, 1, none⟩ (.slice A3 la.length c3))) (w5.heap.size + 1) no A2 lo.length c2) := (Cw.setW Kd.out (by omega) _ _)
  replace B : Hid (Below w.heap.size w (((w7.setCell ⟨w5.heap.size, 0, none⟩ (.bool na)).setCell ⟨w5.heap.size, 1, none⟩ (.slice A3 la.length c3)))) := (below_setW B.out (by omega) _ _)
  clear qq0 qq1 fq0 fq1
  generalize (((w7.setCell ⟨w5.heap.size, 0, none⟩ (.bool na)).setCell ⟨w5.heap.size, 1, none⟩ (.slice A3 la.length c3))) = wz at *
  have hzo := lF Ko
  have hze := lC Ke
  have hzq := lW Kq
  have hzd := lW Kd
  have KoY : Hid (Cf wz.drew w.heap.size false none 0 0 false none 0 0) := Ko.out
  have FoY : Hid (Ff wz.drew w.heap.size) := Fo.out
  have KeY : Hid (C1 wz.drew (w.heap.size + 1) (.int .i64 0)) := Ke.out
  have KqY : Hid (Cw wz.drew w5.heap.size na A3 la.length c3) := Kq.out
  have FqY : Hid (Fw wz.drew w5.heap.size) := Fq.out
  have KdY : Hid (Cw wz.drew (w5.heap.size + 1) no A2 lo.length c2) := Kd.out
  have FdY : Hid (Fw wz.drew (w5.heap.size + 1)) := Fd.out
  have SdY : Hid (Sl wz.drew A2 lo c2) := Sl.drew Sd.out
  have SqY : Hid (Sl wz.drew A3 la c3) := Sl.drew Sq.out
  have BY : Hid (Below w.heap.size w wz.drew) := Below.drew B.out
  obtain ⟨oq0, oq1⟩ := Kq.out
  obtain ⟨pq0, pq1⟩ := Fq.out
  refine wp_region_noPanic ?_
  go_region_with (first
    | (go_at_call 55; refine (hT.out _ _ (by have := hj2.out; simp at this; omega)).mono ?_; rintro e x1 ⟨A7, c7, rfl, hs7, hb⟩; (try dsimp only at hs7); (try dsimp only); have Stx1 : Hid (Sl x1 A7 lt c7) := hs7; have Fox1 := Lib.hid (Ff.keep FoY.out KoY.out hb); have Kox1 := Lib.hid (KoY.out.keep hb); have Kex1 := Lib.hid (KeY.out.keep hb); have Fqx1 := Lib.hid (Fw.keep FqY.out KqY.out hb); have Kqx1 := Lib.hid (KqY.out.keep hb); have Fdx1 := Lib.hid (Fw.keep FdY.out KdY.out hb); have Kdx1 := Lib.hid (KdY.out.keep hb); have Sdx1 := Lib.hid (SdY.out.below hb); have Sqx1 := Lib.hid (SqY.out.below hb); have Bx1 := Lib.hid (below_mono BY.out hb); obtain ⟨oq0x1, oq1x1⟩ := Kqx1.out; obtain ⟨pq0x1, pq1x1⟩ := Fqx1.out; clear hb hs7)
    | (go_at_call 54; refine (wmul_any na nt _ _ la lt _ _ _ Sqx1.out Stx1.out).mono ?_; rw [hME.out]; rintro e x2 ⟨A5, c5, rfl, hs5, hb⟩; (try dsimp only at hs5); (try dsimp only); have Sux2 : Hid (Sl x2 A5 le c5) := hs5; have Fox2 := Lib.hid (Ff.keep Fox1.out Kox1.out hb); have Kox2 := Lib.hid (Kox1.out.keep hb); have Kex2 := Lib.hid (Kex1.out.keep hb); have Fqx2 := Lib.hid (Fw.keep Fqx1.out Kqx1.out hb); have Kqx2 := Lib.hid (Kqx1.out.keep hb); have Fdx2 := Lib.hid (Fw.keep Fdx1.out Kdx1.out hb); have Kdx2 := Lib.hid (Kdx1.out.keep hb); have Sdx2 := Lib.hid (Sdx1.out.below hb); have Sqx2 := Lib.hid (Sqx1.out.below hb); have Stx2 := Lib.hid (Stx1.out.below hb); have Bx2 := Lib.hid (below_mono Bx1.out hb); clear hb hs5)
    | (go_at_call 53; refine (must_ok ne A5 le.length c5 _).mono ?_; rintro e x3 ⟨rfl, hb⟩; (try dsimp only); have Fox3 := Lib.hid (Ff.keep Fox2.out Kox2.out hb); have Kox3 := Lib.hid (Kox2.out.keep hb); have Kex3 := Lib.hid (Kex2.out.keep hb); have Fqx3 := Lib.hid (Fw.keep Fqx2.out Kqx2.out hb); have Kqx3 := Lib.hid (Kqx2.out.keep hb); have Fdx3 := Lib.hid (Fw.keep Fdx2.out Kdx2.out hb); have Kdx3 := Lib.hid (Kdx2.out.keep hb); have Sdx3 := Lib.hid (Sdx2.out.below hb); have Sqx3 := Lib.hid (Sqx2.out.below hb); have Stx3 := Lib.hid (Stx2.out.below hb); have Sux3 := Lib.hid (Sux2.out.below hb); have Bx3 := Lib.hid (below_mono Bx2.out hb); obtain ⟨oq0x3, oq1x3⟩ := Kqx3.out; obtain ⟨pq0x3, pq1x3⟩ := Fqx3.out; clear hb))
  all_goals
    refine NoPanic.normal ?_
    have Ko := Kox3; have Fo := Fox3
    have Ke := Kex3
    have Kq := Kqx3; have Fq := Fqx3
    have Kd := Kdx3; have Fd := Fdx3
    have Sd := Sdx3
    have Sq := Sqx3
    have St := Stx3
    have Su := Sux3
    have B := Bx3
    clear Sq
    clear St
    have Sq := Su
    replace hzo := lF Ko
    replace hze := lC Ke
    replace hzq := lW Kq
    replace hzd := lW Kd
    obtain ⟨qq0, qq1⟩ := Kq.out
    obtain ⟨fq0, fq1⟩ := Fq.out
    obtain ⟨qd0, qd1⟩ := Kd.out
    obtain ⟨fd0, fd1⟩ := Fd.out
    go_wp2_with fail
    · refine (neg_any ne _ le _ _ (Sq.out.setW Kq.out.1 Kq.out.2 _ _)).mono ?_
      rw [hN.out]
      rintro e w8 ⟨A6, c6, rfl, hs6, hb⟩
      clear qq0 qq1 fq0 fq1 qd0 qd1 fd0 fd1
      replace Sd : Hid (Sl w8 A2 lo c2) := Sl.below (Sd.out.setW Kq.out.1 Kq.out.2 _ _) hb
      replace Sq : Hid (Sl w8 A5 le c5) := Sl.below (Sq.out.setW Kq.out.1 Kq.out.2 _ _) hb
      replace Fo : Hid (Ff w8 w.heap.size) := Ff.keep (Ff.setW Fo.out _ _) (Cf.setW Ko.out (by omega) _ _) hb
      replace Fq : Hid (Fw w8 w5.heap.size) := Fw.keep (Fw.setW Fq.out _ _) (Cw.new Kq.out) hb
      replace Fd : Hid (Fw w8 (w5.heap.size + 1)) := Fw.keep (Fw.setW Fd.out _ _) (Cw.setW Kd.out (by omega) _ _) hb
      replace Ko : Hid (Cf w8 w.heap.size false none 0 0 false none 0 0) := Cf.keep (Cf.setW Ko.out (by omega) _ _) hb
      replace Ke : Hid (C1 w8 (w.heap.size + 1) (.int .i64 0)) := C1.keep (C1.setW Ke.out (by omega) _ _) hb
      replace Kq : Hid (Cw w8 w5.heap.size ne A5 le.length c5) := Cw.keep (Cw.new Kq.out) hb
      replace Kd : Hid (Cw w8 (w5.heap.size + 1) no A2 lo.length c2) := Cw.keep (Cw.setW Kd.out (by omega) _ _) hb
      replace B : Hid (Below w.heap.size w w8) := below_mono (below_setW B.out (by omega) _ _) hb
      clear hb
      (try dsimp only at hs6)
      (try dsimp only)
      have Sn : Hid (Sl w8 A6 ln c6) := hs6
      clear hs6
      obtain ⟨qq0, qq1⟩ := Kq.out
      obtain ⟨fq0, fq1⟩ := Fq.out
      obtain ⟨qd0, qd1⟩ := Kd.out
      obtain ⟨fd0, fd1⟩ := Fd.out
      replace hzo := lF Ko
      replace hze := lC Ke
      replace hzq := lW Kq
      replace hzd := lW Kd
      go_wp2_with fail
      refine (must_ok nn A6 ln.length c6 _).mono ?_
      rintro e w9 ⟨rfl, hb⟩
      clear qq0 qq1 fq0 fq1 qd0 qd1 fd0 fd1
      replace Sd := kS Sd hb
      replace Sq := kS Sq hb
      replace Sn := kS Sn hb
      replace Fo := kFf Fo Ko hb
      replace Fq := kFw Fq Kq hb
      replace Fd := kFw Fd Kd hb
      replace Ko := kF Ko hb
      replace Ke := kC Ke hb
      replace Kq := kW Kq hb
      replace Kd := kW Kd hb
      replace B := kB B hb
      clear hb
      obtain ⟨qq0, qq1⟩ := Kq.out
      obtain ⟨fq0, fq1⟩ := Fq.out
      obtain ⟨qd0, qd1⟩ := Kd.out
      obtain ⟨fd0, fd1⟩ := Fd.out
      replace hzo := lF Ko
      replace hze := lC Ke
      replace hzq := lW Kq
      replace hzd := lW Kd
      clear Sq
      have Sq := Sn
      go_wp2_with fail
      refine (make_any nn no _ _ ln lo _ _ _ (Sq.out.setW Kq.out.1 Kq.out.2 _ _) (Sd.out.setW Kq.out.1 Kq.out.2 _ _)).mono ?_
      rw [hM1.out (by assumption)]
      rintro e w10 ⟨A8, c8, A9, c9, rfl, hs8, hs9, hb⟩
      clear qq0 qq1 fq0 fq1 qd0 qd1 fd0 fd1
      replace Sd : Hid (Sl w10 A2 lo c2) := Sl.below (Sd.out.setW Kq.out.1 Kq.out.2 _ _) hb
      replace Sq : Hid (Sl w10 A6 ln c6) := Sl.below (Sq.out.setW Kq.out.1 Kq.out.2 _ _) hb
      replace Fo : Hid (Ff w10 w.heap.size) := Ff.keep (Ff.setW Fo.out _ _) (Cf.setW Ko.out (by omega) _ _) hb
      replace Fq : Hid (Fw w10 w5.heap.size) := Fw.keep (Fw.setW Fq.out _ _) (Cw.new Kq.out) hb
      replace Fd : Hid (Fw w10 (w5.heap.size + 1)) := Fw.keep (Fw.setW Fd.out _ _) (Cw.setW Kd.out (by omega) _ _) hb
      replace Ko : Hid (Cf w10 w.heap.size false none 0 0 false none 0 0) := Cf.keep (Cf.setW Ko.out (by omega) _ _) hb
      replace Ke : Hid (C1 w10 (w.heap.size + 1) (.int .i64 0)) := C1.keep (C1.setW Ke.out (by omega) _ _) hb
      replace Kq : Hid (Cw w10 w5.heap.size nn A6 ln.length c6) := Cw.keep (Cw.new Kq.out) hb
      replace Kd : Hid (Cw w10 (w5.heap.size + 1) no A2 lo.length c2) := Cw.keep (Cw.setW Kd.out (by omega) _ _) hb
      replace B : Hid (Below w.heap.size w w10) := below_mono (below_setW B.out (by omega) _ _) hb
      clear hb
      (try dsimp only at hs8 hs9)
      (try dsimp only)
      have Sx : Hid (Sl w10 A8 lx c8) := hs8
      clear hs8
      have Sy : Hid (Sl w10 A9 ly c9) := hs9
      clear hs9
      obtain ⟨qo0, qo1, qo2, qo3⟩ := Ko.out
      obtain ⟨fo0, fo1, fo2, fo3⟩ := Fo.out
      obtain ⟨qe0, qe1⟩ := Ke.out
      replace hzo := lF Ko
      replace hze := lC Ke
      replace hzq := lW Kq
      replace hzd := lW Kd
      go_wp2_with fail
      refine leaves_cons (f := 46) (args := #[.pointer (some ⟨w.heap.size + 1, 0, none⟩)]) (by simp) (by simp [go_sem]) ?_
      refine (catch_idle ⟨w.heap.size + 1, 0, none⟩ _).mono ?_
      rintro e u' w'' ⟨rfl, rfl, rfl⟩
      simp [Leaves, settle, results, Tryz.results10, go_sem, qo0, qo1, qo2, qo3, qe0]
      exact fres_store (r := ((nx, lx), (ny, ly))) kk Sx.out Sy.out Ko.out Ke.out (by omega) B.out (by omega) (by omega) _ _ _ _ _
    · refine (make_any ne no _ _ le lo _ _ _ (Sq.out.setW Kq.out.1 Kq.out.2 _ _) (Sd.out.setW Kq.out.1 Kq.out.2 _ _)).mono ?_
      rw [hM0.out (by assumption)]
      rintro e w8 ⟨A8, c8, A9, c9, rfl, hs8, hs9, hb⟩
      clear qq0 qq1 fq0 fq1 qd0 qd1 fd0 fd1
      replace Sd : Hid (Sl w8 A2 lo c2) := Sl.below (Sd.out.setW Kq.out.1 Kq.out.2 _ _) hb
      replace Sq : Hid (Sl w8 A5 le c5) := Sl.below (Sq.out.setW Kq.out.1 Kq.out.2 _ _) hb
      replace Fo : Hid (Ff w8 w.heap.size) := Ff.keep (Ff.setW Fo.out _ _) (Cf.setW Ko.out (by omega) _ _) hb
      replace Fq : Hid (Fw w8 w5.heap.size) := Fw.keep (Fw.setW Fq.out _ _) (Cw.new Kq.out) hb
      replace Fd : Hid (Fw w8 (w5.heap.size + 1)) := Fw.keep (Fw.setW Fd.out _ _) (Cw.setW Kd.out (by omega) _ _) hb
      replace Ko : Hid (Cf w8 w.heap.size false none 0 0 false none 0 0) := Cf.keep (Cf.setW Ko.out (by omega) _ _) hb
      replace Ke : Hid (C1 w8 (w.heap.size + 1) (.int .i64 0)) := C1.keep (C1.setW Ke.out (by omega) _ _) hb
      replace Kq : Hid (Cw w8 w5.heap.size ne A5 le.length c5) := Cw.keep (Cw.new Kq.out) hb
      replace Kd : Hid (Cw w8 (w5.heap.size + 1) no A2 lo.length c2) := Cw.keep (Cw.setW Kd.out (by omega) _ _) hb
      replace B : Hid (Below w.heap.size w w8) := below_mono (below_setW B.out (by omega) _ _) hb
      clear hb
      (try dsimp only at hs8 hs9)
      (try dsimp only)
      have Sx : Hid (Sl w8 A8 lx c8) := hs8
      clear hs8
      have Sy : Hid (Sl w8 A9 ly c9) := hs9
      clear hs9
      obtain ⟨qo0, qo1, qo2, qo3⟩ := Ko.out
      obtain ⟨fo0, fo1, fo2, fo3⟩ := Fo.out
      obtain ⟨qe0, qe1⟩ := Ke.out
      replace hzo := lF Ko
      replace hze := lC Ke
      replace hzq := lW Kq
      replace hzd := lW Kd
      go_wp2_with fail
      refine leaves_cons (f := 46) (args := #[.pointer (some ⟨w.heap.size + 1, 0, none⟩)]) (by simp) (by simp [go_sem]) ?_
      refine (catch_idle ⟨w.heap.size + 1, 0, none⟩ _).mono ?_
      rintro e u' w'' ⟨rfl, rfl, rfl⟩
      simp [Leaves, settle, results, Tryz.results10, go_sem, qo0, qo1, qo2, qo3, qe0]
      exact fres_store (r := ((nx, lx), (ny, ly))) kk Sx.out Sy.out Ko.out Ke.out (by omega) B.out (by omega) (by omega) _ _ _ _ _

set_option maxRecDepth 100000 in
set_option maxHeartbeats 2000000 in
theorem parse_dot_down (l : List UInt8) (h : l.length ≤ 200) (m : Bool) (r q t : List UInt8) (b : UInt8) (hm : hasPrefix l [45] = m) (hr : trimPrefix l [45] = r) (hh : headD r = b :: t) (hq : tailD r = q) (hp2 : hasPrefix q [47] = false) (q3 : List UInt8) (hp3 : hasPrefix q [46] = true) (hq3 : trimPrefix q [46] = q3) (x : UInt8) (xs q4 : List UInt8) (hd : headD q3 = x :: xs) (he : tailD q3 = q4) (k : Int) (hs : sciS q4 = some k) (j : Nat) (hj : ((x :: xs).length : Int) - k = (j : Int)) (hj0 : 0 < j) (w : World) :
    Calls Tryz.prog 10 #[.string ⟨l.toArray⟩] w (FRes (ofS (sgn m (dv ((b :: t) ++ (x :: xs)))) ((10 : Int) ^ j)) w) := by
  have B : Hid (Below w.heap.size w w) := Below.refl _ _
  have d0 : decide (l.length ≤ 200) = true := decide_eq_true h
  have d1 : decide ((l.length : Int) ≤ 200) = true := decide_eq_true (by omega)
  have hl : l.length ≤ 3000 := by omega
  have hlr : r.length ≤ 200 := by rw [← hr]; exact Nat.le_trans (trimP_len _ _) h
  have hdh : Dig (b :: t) := hh ▸ headD_dig r
  have hll : (b :: t).length + q.length ≤ 200 := by rw [← hh, ← hq, headD_len]; exact hlr
  obtain ⟨⟨nh, lh⟩, hvh⟩ : ∃ p, p = wOf ((dv (b :: t) : Nat) : Int) := ⟨_, rfl⟩
  obtain ⟨⟨no, lo⟩, hvo⟩ : ∃ p, p = wOf (1 : Int) := ⟨_, rfl⟩
  have vo : VZ no lo 1 := vz_mk hvo fit_one
  have hC1 : Hid (∀ W, Calls Tryz.prog 48 #[.string ⟨(l : List UInt8).toArray⟩, .string ⟨#[45]⟩] W fun e w' => e = .returned (.tuple #[.string ⟨(r : List UInt8).toArray⟩, .bool m]) ∧ W = w') := fun W => by rw [← hr, ← hm]; exact cut_any l [45] W
  have hD1 : Hid (∀ W, Calls Tryz.prog 49 #[.string ⟨(r : List UInt8).toArray⟩] W fun e w' => e = .returned (.tuple #[.string ⟨(b :: t : List UInt8).toArray⟩, .string ⟨(q : List UInt8).toArray⟩]) ∧ Below W.heap.size W w') := fun W => by rw [← hh, ← hq]; exact digits_any r (by omega) W
  have hV1 : Hid (∀ s W, s = (ByteArray.mk (b :: t : List UInt8).toArray) → Calls Tryz.prog 50 #[.string s] W (WRes1 (nh, lh) W)) := fun s W hs => by rw [hs, hvh]; exact value_any _ hdh (by omega) W
  have hO : Hid (∀ W, Calls Tryz.prog 51 #[] W (WRes1 (no, lo) W)) := fun W => by rw [hvo]; exact one_any W
  have hq47 : trimPrefix q [47] = q := by unfold trimPrefix; rw [hp2]; rfl
  have hC2 : Hid (∀ W, Calls Tryz.prog 48 #[.string ⟨(q : List UInt8).toArray⟩, .string ⟨#[47]⟩] W fun e w' => e = .returned (.tuple #[.string ⟨(q : List UInt8).toArray⟩, .bool false]) ∧ W = w') := fun W => by have := cut_any q [47] W; rw [hq47, hp2] at this; exact this
  clear hq47
  have hC3 : Hid (∀ W, Calls Tryz.prog 48 #[.string ⟨(q : List UInt8).toArray⟩, .string ⟨#[46]⟩] W fun e w' => e = .returned (.tuple #[.string ⟨(q3 : List UInt8).toArray⟩, .bool true]) ∧ W = w') := fun W => by rw [← hp3, ← hq3]; exact cut_any q [46] W
  have hlq : q3.length ≤ q.length := by rw [← hq3]; exact trimP_len _ _
  have hD2 : Hid (∀ W, Calls Tryz.prog 49 #[.string ⟨(q3 : List UInt8).toArray⟩] W fun e w' => e = .returned (.tuple #[.string ⟨(x :: xs : List UInt8).toArray⟩, .string ⟨(q4 : List UInt8).toArray⟩]) ∧ Below W.heap.size W w') := fun W => by rw [← hd, ← he]; exact digits_any q3 (by omega) W
  have hl4 : (x :: xs).length + q4.length ≤ q3.length := by have := headD_len q3; rw [he, hd] at this; omega
  have hdp : Dig (x :: xs) := hd ▸ headD_dig q3
  have hpl : xs.length ≤ 199 := by simp at hl4; omega
  have hkb := sci_bd hs
  have hS : Hid (∀ W, Calls Tryz.prog 52 #[.string ⟨q4.toArray⟩] W fun e w' => e = .returned (.int .i64 k) ∧ Below W.heap.size W w') := fun W => sci_ok q4 (by simp at hll; omega) k hs W
  have htl : t.length ≤ 200 := by simp at hll; omega
  have hla : ((b :: t) ++ (x :: xs)).length ≤ 200 := by simp at hll hl4 ⊢; omega
  have hda : Dig ((b :: t) ++ (x :: xs)) := dig_append hdh hdp
  have hjb : j ≤ 1300 := by simp at hj hl4; omega
  obtain ⟨⟨na, la⟩, hva⟩ : ∃ p, p = wOf ((dv ((b :: t) ++ (x :: xs)) : Nat) : Int) := ⟨_, rfl⟩
  have va := vz_mk hva (fit_dv hda (by omega))
  have hV2 : Hid (∀ s W, s = (ByteArray.mk ((b :: t) ++ (x :: xs) : List UInt8).toArray) → Calls Tryz.prog 50 #[.string s] W (WRes1 (na, la) W)) := fun s W hs => by rw [hs, hva]; exact value_any _ hda (by omega) W
  obtain ⟨⟨nt, lt⟩, hvt⟩ : ∃ p, p = p10 j := ⟨_, rfl⟩
  have vt : VZ nt lt ((10 : Int) ^ j) := vz_mk hvt (fit_pow10 (by omega))
  have hT : Hid (∀ z W, z = (j : Int) → Calls Tryz.prog 55 #[.int .i64 z] W (WRes1 (nt, lt) W)) := fun z W hz => by rw [hz, hvt]; exact ten_any j (by omega) W
  obtain ⟨⟨⟨⟨nx, lx⟩, ⟨ny, ly⟩⟩, kk⟩, hR⟩ : ∃ p, p = ofS (sgn m (dv ((b :: t) ++ (x :: xs)))) ((10 : Int) ^ j) := ⟨_, rfl⟩
  obtain ⟨⟨nn, ln⟩, hn⟩ : ∃ p, p = wOf (-(((dv ((b :: t) ++ (x :: xs))) : Nat) : Int)) := ⟨_, rfl⟩
  have hN : Hid (negS na la = ((nn, ln), 0)) := by rw [hn]; exact negS_z va
  have vn : VZ nn ln (-(((dv ((b :: t) ++ (x :: xs))) : Nat) : Int)) := vz_mk hn (fit_mono (by simp) va.2)
  have hM0 : Hid (m = false → makeS na la nt lt = (((nx, lx), (ny, ly)), kk)) := fun hm0 => by rw [make_good va vt, hR, hm0]; rfl
  have hM1 : Hid (m = true → makeS nn ln nt lt = (((nx, lx), (ny, ly)), kk)) := fun hm1 => by rw [make_good vn vt, hR, hm1]; rfl
  rw [← hR]
  have dp1 : decide (((xs.length : Int) + 1) ≤ k) = false := decide_eq_false (by simp at hj; omega)
  have dp2 : decide (0 ≤ k - ((xs.length : Int) + 1)) = false := decide_eq_false (by simp at hj; omega)
  have hj2 := Lib.hid hj
  clear hm hr hh hq hvh hvo hlr h hl hp2 hp3 hq3 hd he hlq hl4 hs hll hdh vo hdp hla hda hva va hvt vt vn hn hR hj
  go_enter_defers Tryz.func10, Tryz.ntmps10
  go_wp2_with fail
  refine (form_ok _).mono ?_
  rintro e w1 ⟨rfl, hb⟩
  have Fo : Hid (Ff w1 w.heap.size) := Ff.keep (Ff.keep (Ff.fresh (by simp) _ _) (Cf.fresh (by simp) _ _ _ _ _ _ _ _ _) (blw1 _ _)) (Cf.keep (Cf.fresh (by simp) _ _ _ _ _ _ _ _ _) (blw1 _ _)) hb
  have Ko : Hid (Cf w1 w.heap.size false none 0 0 false none 0 0) := Cf.keep (Cf.keep (Cf.fresh (by simp) _ _ _ _ _ _ _ _ _) (blw1 _ _)) hb
  have Ke : Hid (C1 w1 (w.heap.size + 1) (.int .i64 0)) := C1.keep (C1.fresh (by simp) _ _) hb
  replace B := kB2 B hb
  clear hb
  have hzo := lF Ko
  have hze := lC Ke
  go_wp2_with fail
  refine (hC1.out _).mono ?_
  rintro e w' ⟨rfl, rfl⟩
  go_wp2_with fail
  refine (hD1.out _).mono ?_
  rintro e w2 ⟨rfl, hb⟩
  replace Fo := kFf Fo Ko hb
  replace Ko := kF Ko hb
  replace Ke := kC Ke hb
  replace B := kB B hb
  clear hb
  replace hzo := lF Ko
  replace hze := lC Ke
  go_wp2_with fail
  refine (form_ok _).mono ?_
  rintro e w3 ⟨rfl, hb⟩
  replace Fo := kFf Fo Ko hb
  replace Ko := kF Ko hb
  replace Ke := kC Ke hb
  replace B := kB B hb
  clear hb
  replace hzo := lF Ko
  replace hze := lC Ke
  go_wp2_with fail
  refine (hV1.out _ _ rfl).mono ?_
  rintro e w4 ⟨A1, c1, rfl, hs1, hb⟩
  replace Fo := kFf Fo Ko hb
  replace Ko := kF Ko hb
  replace Ke := kC Ke hb
  replace B := kB B hb
  clear hb
  (try dsimp only at hs1)
  (try dsimp only)
  have Sq : Hid (Sl w4 A1 lh c1) := hs1
  clear hs1
  replace hzo := lF Ko
  replace hze := lC Ke
  go_wp2_with fail
  refine (hO.out _).mono ?_
  rintro e w5 ⟨A2, c2, rfl, hs2, hb⟩
  replace Sq := kS Sq hb
  replace Fo := kFf Fo Ko hb
  replace Ko := kF Ko hb
  replace Ke := kC Ke hb
  replace B := kB B hb
  clear hb
  (try dsimp only at hs2)
  (try dsimp only)
  have Sd : Hid (Sl w5 A2 lo c2) := hs2
  clear hs2
  replace hzo := lF Ko
  replace hze := lC Ke
  have hkoq := hzo
  have hkeq := hze
  have hkod := hzo
  have hked := hze
  go_wp2_with fail
  refine (hC2.out _).mono ?_
  rintro e w' ⟨rfl, rfl⟩
  go_wp2_with fail
  refine (hC3.out _).mono ?_
  rintro e w' ⟨rfl, rfl⟩
  go_wp2_with fail
  refine (hD2.out _).mono ?_
  rintro e w6 ⟨rfl, hb⟩
  replace Sq := kS2 Sq hb
  replace Sd := kS2 Sd hb
  replace Fo := kFf2 Fo Ko hb
  have Fq : Hid (Fw w6 w5.heap.size) := Fw.keep (Fw.keep (Fw.fresh (by simp) _ _) (Cw.fresh (by simp) _ _ _ _ _) (blw1 _ _)) (Cw.keep (Cw.fresh (by simp) _ _ _ _ _) (blw1 _ _)) hb
  have Fd : Hid (Fw w6 (w5.heap.size + 1)) := Fw.keep (Fw.fresh (by simp) _ _) (Cw.fresh (by simp) _ _ _ _ _) hb
  replace Ko := kF2 Ko hb
  replace Ke := kC2 Ke hb
  have Kq : Hid (Cw w6 w5.heap.size nh A1 lh.length c1) := Cw.keep (Cw.keep (Cw.fresh (by simp) _ _ _ _ _) (blw1 _ _)) hb
  have Kd : Hid (Cw w6 (w5.heap.size + 1) no A2 lo.length c2) := Cw.keep (Cw.fresh (by simp) _ _ _ _ _) hb
  replace B := kB2 B hb
  clear hb
  replace hzo := lF Ko
  replace hze := lC Ke
  have hzq := lW Kq
  have hzd := lW Kd
  go_wp2_with fail
  refine (form_ok _).mono ?_
  rintro e w7 ⟨rfl, hb⟩
  replace Sq := kS Sq hb
  replace Sd := kS Sd hb
  replace Fo := kFf Fo Ko hb
  replace Fq := kFw Fq Kq hb
  replace Fd := kFw Fd Kd hb
  replace Ko := kF Ko hb
  replace Ke := kC Ke hb
  replace Kq := kW Kq hb
  replace Kd := kW Kd hb
  replace B := kB B hb
  clear hb
  replace hzo := lF Ko
  replace hze := lC Ke
  replace hzq := lW Kq
  replace hzd := lW Kd
  go_wp2_with fail
  refine (hS.out _).mono ?_
  rintro e w8 ⟨rfl, hb⟩
  replace Sq := kS Sq hb
  replace Sd := kS Sd hb
  replace Fo := kFf Fo Ko hb
  replace Fq := kFw Fq Kq hb
  replace Fd := kFw Fd Kd hb
  replace Ko := kF Ko hb
  replace Ke := kC Ke hb
  replace Kq := kW Kq hb
  replace Kd := kW Kd hb
  replace B := kB B hb
  clear hb
  replace hzo := lF Ko
  replace hze := lC Ke
  replace hzq := lW Kq
  replace hzd := lW Kd
  obtain ⟨qq0, qq1⟩ := Kq.out
  obtain ⟨fq0, fq1⟩ := Fq.out
  go_wp2_with fail
  refine (hV2.out _ _ (cat_eq _ _)).mono ?_
  rintro e w9 ⟨A3, c3, rfl, hs3, hb⟩
  clear qq0 qq1 fq0 fq1
  replace Sq := kS Sq hb
  replace Sd := kS Sd hb
  replace Fo := kFf Fo Ko hb
  replace Fq := kFw Fq Kq hb
  replace Fd := kFw Fd Kd hb
  replace Ko := kF Ko hb
  replace Ke := kC Ke hb
  replace Kq := kW Kq hb
  replace Kd := kW Kd hb
  replace B := kB B hb
  clear hb
  (try dsimp only at hs3)
  (try dsimp only)
  clear Sq
  have Sq : Hid (Sl w9 A3 la c3) := hs3
  clear hs3
  obtain ⟨qq0, qq1⟩ := Kq.out
  obtain ⟨fq0, fq1⟩ := Fq.out
  replace hzo := lF Ko
  replace hze := lC Ke
  replace hzq := lW Kq
  replace hzd := lW Kd
  go_wp2_with fail
  refine (hT.out _ _ (by have := hj2.out; simp at this; omega)).mono ?_
  rintro e w10 ⟨A4, c4, rfl, hs4, hb⟩
  clear qq0 qq1 fq0 fq1
  replace Sd : Hid (Sl w10 A2 lo c2) := Sl.below (Sd.out.setW Kq.out.1 Kq.out.2 _ _) hb
  replace Sq : Hid (Sl w10 A3 la c3) := Sl.below (Sq.out.setW Kq.out.1 Kq.out.2 _ _) hb
  replace Fo : Hid (Ff w10 w.heap.size) := Ff.keep (Ff.setW Fo.out _ _) (Cf.setW Ko.out (by omega) _ _) hb
  replace Fq : Hid (Fw w10 w5.heap.size) := Fw.keep (Fw.setW Fq.out _ _) (Cw.new Kq.out) hb
  replace Fd : Hid (Fw w10 (w5.heap.size + 1)) := Fw.keep (Fw.setW Fd.out _ _) (Cw.setW Kd.out (by omega) _ _) hb
  replace Ko : Hid (Cf w10 w.heap.size false none 0 0 false none 0 0) := Cf.keep (Cf.setW Ko.out (by omega) _ _) hb
  replace Ke : Hid (C1 w10 (w.heap.size + 1) (.int .i64 0)) := C1.keep (C1.setW Ke.out (by omega) _ _) hb
  replace Kq : Hid (Cw w10 w5.heap.size na A3 la.length c3) := Cw.keep (Cw.new Kq.out) hb
  replace Kd : Hid (Cw w10 (w5.heap.size + 1) no A2 lo.length c2) := Cw.keep (Cw.setW Kd.out (by omega) _ _) hb
  replace B : Hid (Below w.heap.size w w10) := below_mono (below_setW B.out (by omega) _ _) hb
  clear hb
  (try dsimp only at hs4)
  (try dsimp only)
  clear Sd
  have Sd : Hid (Sl w10 A4 lt c4) := hs4
  clear hs4
  obtain ⟨qd0, qd1⟩ := Kd.out
  obtain ⟨fd0, fd1⟩ := Fd.out
  replace hzo := lF Ko
  replace hze := lC Ke
  replace hzq := lW Kq
  replace hzd := lW Kd
  obtain ⟨qq0, qq1⟩ := Kq.out
  obtain ⟨fq0, fq1⟩ := Fq.out
  go_wp2_with fail
  · refine (neg_any na _ la _ _ (Sq.out.setW Kd.out.1 Kd.out.2 _ _)).mono ?_
    rw [hN.out]
    rintro e w11 ⟨A6, c6, rfl, hs6, hb⟩
    clear qd0 qd1 fd0 fd1 qq0 qq1 fq0 fq1
    replace Sq : Hid (Sl w11 A3 la c3) := Sl.below (Sq.out.setW Kd.out.1 Kd.out.2 _ _) hb
    replace Sd : Hid (Sl w11 A4 lt c4) := Sl.below (Sd.out.setW Kd.out.1 Kd.out.2 _ _) hb
    replace Fo : Hid (Ff w11 w.heap.size) := Ff.keep (Ff.setW Fo.out _ _) (Cf.setW Ko.out (by omega) _ _) hb
    replace Fq : Hid (Fw w11 w5.heap.size) := Fw.keep (Fw.setW Fq.out _ _) (Cw.setW Kq.out (by omega) _ _) hb
    replace Fd : Hid (Fw w11 (w5.heap.size + 1)) := Fw.keep (Fw.setW Fd.out _ _) (Cw.new Kd.out) hb
    replace Ko : Hid (Cf w11 w.heap.size false none 0 0 false none 0 0) := Cf.keep (Cf.setW Ko.out (by omega) _ _) hb
    replace Ke : Hid (C1 w11 (w.heap.size + 1) (.int .i64 0)) := C1.keep (C1.setW Ke.out (by omega) _ _) hb
    replace Kq : Hid (Cw w11 w5.heap.size na A3 la.length c3) := Cw.keep (Cw.setW Kq.out (by omega) _ _) hb
    replace Kd : Hid (Cw w11 (w5.heap.size + 1) nt A4 lt.length c4) := Cw.keep (Cw.new Kd.out) hb
    replace B : Hid (Below w.heap.size w w11) := below_mono (below_setW B.out (by omega) _ _) hb
    clear hb
    (try dsimp only at hs6)
    (try dsimp only)
    have Sn : Hid (Sl w11 A6 ln c6) := hs6
    clear hs6
    obtain ⟨qq0, qq1⟩ := Kq.out
    obtain ⟨fq0, fq1⟩ := Fq.out
    obtain ⟨qd0, qd1⟩ := Kd.out
    obtain ⟨fd0, fd1⟩ := Fd.out
    replace hzo := lF Ko
    replace hze := lC Ke
    replace hzq := lW Kq
    replace hzd := lW Kd
    go_wp2_with fail
    refine (must_ok nn A6 ln.length c6 _).mono ?_
    rintro e w12 ⟨rfl, hb⟩
    clear qq0 qq1 fq0 fq1 qd0 qd1 fd0 fd1
    replace Sq := kS Sq hb
    replace Sd := kS Sd hb
    replace Sn := kS Sn hb
    replace Fo := kFf Fo Ko hb
    replace Fq := kFw Fq Kq hb
    replace Fd := kFw Fd Kd hb
    replace Ko := kF Ko hb
    replace Ke := kC Ke hb
    replace Kq := kW Kq hb
    replace Kd := kW Kd hb
    replace B := kB B hb
    clear hb
    obtain ⟨qq0, qq1⟩ := Kq.out
    obtain ⟨fq0, fq1⟩ := Fq.out
    obtain ⟨qd0, qd1⟩ := Kd.out
    obtain ⟨fd0, fd1⟩ := Fd.out
    replace hzo := lF Ko
    replace hze := lC Ke
    replace hzq := lW Kq
    replace hzd := lW Kd
    clear Sq
    have Sq := Sn
    go_wp2_with fail
    refine (make_any nn nt _ _ ln lt _ _ _ (Sq.out.setW Kq.out.1 Kq.out.2 _ _) (Sd.out.setW Kq.out.1 Kq.out.2 _ _)).mono ?_
    rw [hM1.out (by assumption)]
    rintro e w13 ⟨A8, c8, A9, c9, rfl, hs8, hs9, hb⟩
    clear qq0 qq1 fq0 fq1 qd0 qd1 fd0 fd1
    replace Sd : Hid (Sl w13 A4 lt c4) := Sl.below (Sd.out.setW Kq.out.1 Kq.out.2 _ _) hb
    replace Sq : Hid (Sl w13 A6 ln c6) := Sl.below (Sq.out.setW Kq.out.1 Kq.out.2 _ _) hb
    replace Fo : Hid (Ff w13 w.heap.size) := Ff.keep (Ff.setW Fo.out _ _) (Cf.setW Ko.out (by omega) _ _) hb
    replace Fq : Hid (Fw w13 w5.heap.size) := Fw.keep (Fw.setW Fq.out _ _) (Cw.new Kq.out) hb
    replace Fd : Hid (Fw w13 (w5.heap.size + 1)) := Fw.keep (Fw.setW Fd.out _ _) (Cw.setW Kd.out (by omega) _ _) hb
    replace Ko : Hid (Cf w13 w.heap.size false none 0 0 false none 0 0) := Cf.keep (Cf.setW Ko.out (by omega) _ _) hb
    replace Ke : Hid (C1 w13 (w.heap.size + 1) (.int .i64 0)) := C1.keep (C1.setW Ke.out (by omega) _ _) hb
    replace Kq : Hid (Cw w13 w5.heap.size nn A6 ln.length c6) := Cw.keep (Cw.new Kq.out) hb
    replace Kd : Hid (Cw w13 (w5.heap.size + 1) nt A4 lt.length c4) := Cw.keep (Cw.setW Kd.out (by omega) _ _) hb
    replace B : Hid (Below w.heap.size w w13) := below_mono (below_setW B.out (by omega) _ _) hb
    clear hb
    (try dsimp only at hs8 hs9)
    (try dsimp only)
    have Sx : Hid (Sl w13 A8 lx c8) := hs8
    clear hs8
    have Sy : Hid (Sl w13 A9 ly c9) := hs9
    clear hs9
    obtain ⟨qo0, qo1, qo2, qo3⟩ := Ko.out
    obtain ⟨fo0, fo1, fo2, fo3⟩ := Fo.out
    obtain ⟨qe0, qe1⟩ := Ke.out
    replace hzo := lF Ko
    replace hze := lC Ke
    replace hzq := lW Kq
    replace hzd := lW Kd
    go_wp2_with fail
    refine leaves_cons (f := 46) (args := #[.pointer (some ⟨w.heap.size + 1, 0, none⟩)]) (by simp) (by simp [go_sem]) ?_
    refine (catch_idle ⟨w.heap.size + 1, 0, none⟩ _).mono ?_
    rintro e u' w'' ⟨rfl, rfl, rfl⟩
    simp [Leaves, settle, results, Tryz.results10, go_sem, qo0, qo1, qo2, qo3, qe0]
    exact fres_store (r := ((nx, lx), (ny, ly))) kk Sx.out Sy.out Ko.out Ke.out (by omega) B.out (by omega) (by omega) _ _ _ _ _
  · refine (make_any na nt _ _ la lt _ _ _ (Sq.out.setW Kd.out.1 Kd.out.2 _ _) (Sd.out.setW Kd.out.1 Kd.out.2 _ _)).mono ?_
    rw [hM0.out (by assumption)]
    rintro e w11 ⟨A8, c8, A9, c9, rfl, hs8, hs9, hb⟩
    clear qd0 qd1 fd0 fd1 qq0 qq1 fq0 fq1
    replace Sq : Hid (Sl w11 A3 la c3) := Sl.below (Sq.out.setW Kd.out.1 Kd.out.2 _ _) hb
    replace Sd : Hid (Sl w11 A4 lt c4) := Sl.below (Sd.out.setW Kd.out.1 Kd.out.2 _ _) hb
    replace Fo : Hid (Ff w11 w.heap.size) := Ff.keep (Ff.setW Fo.out _ _) (Cf.setW Ko.out (by omega) _ _) hb
    replace Fq : Hid (Fw w11 w5.heap.size) := Fw.keep (Fw.setW Fq.out _ _) (Cw.setW Kq.out (by omega) _ _) hb
    replace Fd : Hid (Fw w11 (w5.heap.size + 1)) := Fw.keep (Fw.setW Fd.out _ _) (Cw.new Kd.out) hb
    replace Ko : Hid (Cf w11 w.heap.size false none 0 0 false none 0 0) := Cf.keep (Cf.setW Ko.out (by omega) _ _) hb
    replace Ke : Hid (C1 w11 (w.heap.size + 1) (.int .i64 0)) := C1.keep (C1.setW Ke.out (by omega) _ _) hb
    replace Kq : Hid (Cw w11 w5.heap.size na A3 la.length c3) := Cw.keep (Cw.setW Kq.out (by omega) _ _) hb
    replace Kd : Hid (Cw w11 (w5.heap.size + 1) nt A4 lt.length c4) := Cw.keep (Cw.new Kd.out) hb
    replace B : Hid (Below w.heap.size w w11) := below_mono (below_setW B.out (by omega) _ _) hb
    clear hb
    (try dsimp only at hs8 hs9)
    (try dsimp only)
    have Sx : Hid (Sl w11 A8 lx c8) := hs8
    clear hs8
    have Sy : Hid (Sl w11 A9 ly c9) := hs9
    clear hs9
    obtain ⟨qo0, qo1, qo2, qo3⟩ := Ko.out
    obtain ⟨fo0, fo1, fo2, fo3⟩ := Fo.out
    obtain ⟨qe0, qe1⟩ := Ke.out
    replace hzo := lF Ko
    replace hze := lC Ke
    replace hzq := lW Kq
    replace hzd := lW Kd
    go_wp2_with fail
    refine leaves_cons (f := 46) (args := #[.pointer (some ⟨w.heap.size + 1, 0, none⟩)]) (by simp) (by simp [go_sem]) ?_
    refine (catch_idle ⟨w.heap.size + 1, 0, none⟩ _).mono ?_
    rintro e u' w'' ⟨rfl, rfl, rfl⟩
    simp [Leaves, settle, results, Tryz.results10, go_sem, qo0, qo1, qo2, qo3, qe0]
    exact fres_store (r := ((nx, lx), (ny, ly))) kk Sx.out Sy.out Ko.out Ke.out (by omega) B.out (by omega) (by omega) _ _ _ _ _

set_option maxRecDepth 100000 in
set_option maxHeartbeats 2000000 in
theorem parse_not_down (l : List UInt8) (h : l.length ≤ 200) (m : Bool) (r q t : List UInt8) (b : UInt8) (hm : hasPrefix l [45] = m) (hr : trimPrefix l [45] = r) (hh : headD r = b :: t) (hq : tailD r = q) (hp2 : hasPrefix q [47] = false) (hp3 : hasPrefix q [46] = false) (k : Int) (hs : sciS q = some k) (j : Nat) (hj : (([] : List UInt8).length : Int) - k = (j : Int)) (hj0 : 0 < j) (w : World) :
    Calls Tryz.prog 10 #[.string ⟨l.toArray⟩] w (FRes (ofS (sgn m (dv ((b :: t) ++ ([] : List UInt8)))) ((10 : Int) ^ j)) w) := by
  have B : Hid (Below w.heap.size w w) := Below.refl _ _
  have d0 : decide (l.length ≤ 200) = true := decide_eq_true h
  have d1 : decide ((l.length : Int) ≤ 200) = true := decide_eq_true (by omega)
  have hl : l.length ≤ 3000 := by omega
  have hlr : r.length ≤ 200 := by rw [← hr]; exact Nat.le_trans (trimP_len _ _) h
  have hdh : Dig (b :: t) := hh ▸ headD_dig r
  have hll : (b :: t).length + q.length ≤ 200 := by rw [← hh, ← hq, headD_len]; exact hlr
  obtain ⟨⟨nh, lh⟩, hvh⟩ : ∃ p, p = wOf ((dv (b :: t) : Nat) : Int) := ⟨_, rfl⟩
  obtain ⟨⟨no, lo⟩, hvo⟩ : ∃ p, p = wOf (1 : Int) := ⟨_, rfl⟩
  have vo : VZ no lo 1 := vz_mk hvo fit_one
  have hC1 : Hid (∀ W, Calls Tryz.prog 48 #[.string ⟨(l : List UInt8).toArray⟩, .string ⟨#[45]⟩] W fun e w' => e = .returned (.tuple #[.string ⟨(r : List UInt8).toArray⟩, .bool m]) ∧ W = w') := fun W => by rw [← hr, ← hm]; exact cut_any l [45] W
  have hD1 : Hid (∀ W, Calls Tryz.prog 49 #[.string ⟨(r : List UInt8).toArray⟩] W fun e w' => e = .returned (.tuple #[.string ⟨(b :: t : List UInt8).toArray⟩, .string ⟨(q : List UInt8).toArray⟩]) ∧ Below W.heap.size W w') := fun W => by rw [← hh, ← hq]; exact digits_any r (by omega) W
  have hV1 : Hid (∀ s W, s = (ByteArray.mk (b :: t : List UInt8).toArray) → Calls Tryz.prog 50 #[.string s] W (WRes1 (nh, lh) W)) := fun s W hs => by rw [hs, hvh]; exact value_any _ hdh (by omega) W
  have hO : Hid (∀ W, Calls Tryz.prog 51 #[] W (WRes1 (no, lo) W)) := fun W => by rw [hvo]; exact one_any W
  have hq47 : trimPrefix q [47] = q := by unfold trimPrefix; rw [hp2]; rfl
  have hC2 : Hid (∀ W, Calls Tryz.prog 48 #[.string ⟨(q : List UInt8).toArray⟩, .string ⟨#[47]⟩] W fun e w' => e = .returned (.tuple #[.string ⟨(q : List UInt8).toArray⟩, .bool false]) ∧ W = w') := fun W => by have := cut_any q [47] W; rw [hq47, hp2] at this; exact this
  clear hq47
  have hq46 : trimPrefix q [46] = q := by unfold trimPrefix; rw [hp3]; rfl
  have hC3 : Hid (∀ W, Calls Tryz.prog 48 #[.string ⟨(q : List UInt8).toArray⟩, .string ⟨#[46]⟩] W fun e w' => e = .returned (.tuple #[.string ⟨(q : List UInt8).toArray⟩, .bool false]) ∧ W = w') := fun W => by have := cut_any q [46] W; rw [hq46, hp3] at this; exact this
  clear hq46
  have hdp : Dig ([] : List UInt8) := dig_nil
  have hkb := sci_bd hs
  have hS : Hid (∀ W, Calls Tryz.prog 52 #[.string ⟨q.toArray⟩] W fun e w' => e = .returned (.int .i64 k) ∧ Below W.heap.size W w') := fun W => sci_ok q (by simp at hll; omega) k hs W
  have htl : t.length ≤ 200 := by simp at hll; omega
  have hla : ((b :: t) ++ ([] : List UInt8)).length ≤ 200 := by simp at hll ⊢; omega
  have hda : Dig ((b :: t) ++ ([] : List UInt8)) := dig_append hdh hdp
  have hjb : j ≤ 1300 := by simp at hj; omega
  obtain ⟨⟨na, la⟩, hva⟩ : ∃ p, p = wOf ((dv ((b :: t) ++ ([] : List UInt8)) : Nat) : Int) := ⟨_, rfl⟩
  have va := vz_mk hva (fit_dv hda (by omega))
  have hV2 : Hid (∀ s W, s = (ByteArray.mk ((b :: t) ++ ([] : List UInt8) : List UInt8).toArray) → Calls Tryz.prog 50 #[.string s] W (WRes1 (na, la) W)) := fun s W hs => by rw [hs, hva]; exact value_any _ hda (by omega) W
  obtain ⟨⟨nt, lt⟩, hvt⟩ : ∃ p, p = p10 j := ⟨_, rfl⟩
  have vt : VZ nt lt ((10 : Int) ^ j) := vz_mk hvt (fit_pow10 (by omega))
  have hT : Hid (∀ z W, z = (j : Int) → Calls Tryz.prog 55 #[.int .i64 z] W (WRes1 (nt, lt) W)) := fun z W hz => by rw [hz, hvt]; exact ten_any j (by omega) W
  obtain ⟨⟨⟨⟨nx, lx⟩, ⟨ny, ly⟩⟩, kk⟩, hR⟩ : ∃ p, p = ofS (sgn m (dv ((b :: t) ++ ([] : List UInt8)))) ((10 : Int) ^ j) := ⟨_, rfl⟩
  obtain ⟨⟨nn, ln⟩, hn⟩ : ∃ p, p = wOf (-(((dv ((b :: t) ++ ([] : List UInt8))) : Nat) : Int)) := ⟨_, rfl⟩
  have hN : Hid (negS na la = ((nn, ln), 0)) := by rw [hn]; exact negS_z va
  have vn : VZ nn ln (-(((dv ((b :: t) ++ ([] : List UInt8))) : Nat) : Int)) := vz_mk hn (fit_mono (by simp) va.2)
  have hM0 : Hid (m = false → makeS na la nt lt = (((nx, lx), (ny, ly)), kk)) := fun hm0 => by rw [make_good va vt, hR, hm0]; rfl
  have hM1 : Hid (m = true → makeS nn ln nt lt = (((nx, lx), (ny, ly)), kk)) := fun hm1 => by rw [make_good vn vt, hR, hm1]; rfl
  rw [← hR]
  have dp1 : decide ((0 : Int) ≤ k) = false := decide_eq_false (by simp at hj; omega)
  have dp2 : decide (0 ≤ k - (0 : Int)) = false := decide_eq_false (by simp at hj; omega)
  have hj2 := Lib.hid hj
  clear hm hr hh hq hvh hvo hlr h hl hp2 hp3 hs hll hdh vo hdp hla hda hva va hvt vt vn hn hR hj
  go_enter_defers Tryz.func10, Tryz.ntmps10
  go_wp2_with fail
  refine (form_ok _).mono ?_
  rintro e w1 ⟨rfl, hb⟩
  have Fo : Hid (Ff w1 w.heap.size) := Ff.keep (Ff.keep (Ff.fresh (by simp) _ _) (Cf.fresh (by simp) _ _ _ _ _ _ _ _ _) (blw1 _ _)) (Cf.keep (Cf.fresh (by simp) _ _ _ _ _ _ _ _ _) (blw1 _ _)) hb
  have Ko : Hid (Cf w1 w.heap.size false none 0 0 false none 0 0) := Cf.keep (Cf.keep (Cf.fresh (by simp) _ _ _ _ _ _ _ _ _) (blw1 _ _)) hb
  have Ke : Hid (C1 w1 (w.heap.size + 1) (.int .i64 0)) := C1.keep (C1.fresh (by simp) _ _) hb
  replace B := kB2 B hb
  clear hb
  have hzo := lF Ko
  have hze := lC Ke
  go_wp2_with fail
  refine (hC1.out _).mono ?_
  rintro e w' ⟨rfl, rfl⟩
  go_wp2_with fail
  refine (hD1.out _).mono ?_
  rintro e w2 ⟨rfl, hb⟩
  replace Fo := kFf Fo Ko hb
  replace Ko := kF Ko hb
  replace Ke := kC Ke hb
  replace B := kB B hb
  clear hb
  replace hzo := lF Ko
  replace hze := lC Ke
  go_wp2_with fail
  refine (form_ok _).mono ?_
  rintro e w3 ⟨rfl, hb⟩
  replace Fo := kFf Fo Ko hb
  replace Ko := kF Ko hb
  replace Ke := kC Ke hb
  replace B := kB B hb
  clear hb
  replace hzo := lF Ko
  replace hze := lC Ke
  go_wp2_with fail
  refine (hV1.out _ _ rfl).mono ?_
  rintro e w4 ⟨A1, c1, rfl, hs1, hb⟩
  replace Fo := kFf Fo Ko hb
  replace Ko := kF Ko hb
  replace Ke := kC Ke hb
  replace B := kB B hb
  clear hb
  (try dsimp only at hs1)
  (try dsimp only)
  have Sq : Hid (Sl w4 A1 lh c1) := hs1
  clear hs1
  replace hzo := lF Ko
  replace hze := lC Ke
  go_wp2_with fail
  refine (hO.out _).mono ?_
  rintro e w5 ⟨A2, c2, rfl, hs2, hb⟩
  replace Sq := kS Sq hb
  replace Fo := kFf Fo Ko hb
  replace Ko := kF Ko hb
  replace Ke := kC Ke hb
  replace B := kB B hb
  clear hb
  (try dsimp only at hs2)
  (try dsimp only)
  have Sd : Hid (Sl w5 A2 lo c2) := hs2
  clear hs2
  replace hzo := lF Ko
  replace hze := lC Ke
  have hkoq := hzo
  have hkeq := hze
  have hkod := hzo
  have hked := hze
  go_wp2_with fail
  refine (hC2.out _).mono ?_
  rintro e w' ⟨rfl, rfl⟩
  go_wp2_with fail
  refine (hC3.out _).mono ?_
  rintro e w' ⟨rfl, rfl⟩
  go_wp2_with fail
  refine (hS.out _).mono ?_
  rintro e w6 ⟨rfl, hb⟩
  replace Sq := kS2 Sq hb
  replace Sd := kS2 Sd hb
  replace Fo := kFf2 Fo Ko hb
  have Fq : Hid (Fw w6 w5.heap.size) := Fw.keep (Fw.keep (Fw.fresh (by simp) _ _) (Cw.fresh (by simp) _ _ _ _ _) (blw1 _ _)) (Cw.keep (Cw.fresh (by simp) _ _ _ _ _) (blw1 _ _)) hb
  have Fd : Hid (Fw w6 (w5.heap.size + 1)) := Fw.keep (Fw.fresh (by simp) _ _) (Cw.fresh (by simp) _ _ _ _ _) hb
  replace Ko := kF2 Ko hb
  replace Ke := kC2 Ke hb
  have Kq : Hid (Cw w6 w5.heap.size nh A1 lh.length c1) := Cw.keep (Cw.keep (Cw.fresh (by simp) _ _ _ _ _) (blw1 _ _)) hb
  have Kd : Hid (Cw w6 (w5.heap.size + 1) no A2 lo.length c2) := Cw.keep (Cw.fresh (by simp) _ _ _ _ _) hb
  replace B := kB2 B hb
  clear hb
  replace hzo := lF Ko
  replace hze := lC Ke
  have hzq := lW Kq
  have hzd := lW Kd
  obtain ⟨qq0, qq1⟩ := Kq.out
  obtain ⟨fq0, fq1⟩ := Fq.out
  have hcat : (ByteArray.mk (b :: t).toArray) ++ (ByteArray.mk #[]) = ⟨((b :: t) ++ ([] : List UInt8)).toArray⟩ := cat_eq (b :: t) []
  go_wp2_with fail
  refine (hV2.out _ _ (by first | exact hcat | simp)).mono ?_
  rintro e w7 ⟨A3, c3, rfl, hs3, hb⟩
  clear qq0 qq1 fq0 fq1
  replace Sq := kS Sq hb
  replace Sd := kS Sd hb
  replace Fo := kFf Fo Ko hb
  replace Fq := kFw Fq Kq hb
  replace Fd := kFw Fd Kd hb
  replace Ko := kF Ko hb
  replace Ke := kC Ke hb
  replace Kq := kW Kq hb
  replace Kd := kW Kd hb
  replace B := kB B hb
  clear hb
  (try dsimp only at hs3)
  (try dsimp only)
  clear hcat
  clear Sq
  have Sq : Hid (Sl w7 A3 la c3) := hs3
  clear hs3
  obtain ⟨qq0, qq1⟩ := Kq.out
  obtain ⟨fq0, fq1⟩ := Fq.out
  replace hzo := lF Ko
  replace hze := lC Ke
  replace hzq := lW Kq
  replace hzd := lW Kd
  go_wp2_with fail
  refine (hT.out _ _ (by have := hj2.out; simp at this; omega)).mono ?_
  rintro e w8 ⟨A4, c4, rfl, hs4, hb⟩
  clear qq0 qq1 fq0 fq1
  replace Sd : Hid (Sl w8 A2 lo c2) := Sl.below (Sd.out.setW Kq.out.1 Kq.out.2 _ _) hb
  replace Sq : Hid (Sl w8 A3 la c3) := Sl.below (Sq.out.setW Kq.out.1 Kq.out.2 _ _) hb
  replace Fo : Hid (Ff w8 w.heap.size) := Ff.keep (Ff.setW Fo.out _ _) (Cf.setW Ko.out (by omega) _ _) hb
  replace Fq : Hid (Fw w8 w5.heap.size) := Fw.keep (Fw.setW Fq.out _ _) (Cw.new Kq.out) hb
  replace Fd : Hid (Fw w8 (w5.heap.size + 1)) := Fw.keep (Fw.setW Fd.out _ _) (Cw.setW Kd.out (by omega) _ _) hb
  replace Ko : Hid (Cf w8 w.heap.size false none 0 0 false none 0 0) := Cf.keep (Cf.setW Ko.out (by omega) _ _) hb
  replace Ke : Hid (C1 w8 (w.heap.size + 1) (.int .i64 0)) := C1.keep (C1.setW Ke.out (by omega) _ _) hb
  replace Kq : Hid (Cw w8 w5.heap.size na A3 la.length c3) := Cw.keep (Cw.new Kq.out) hb
  replace Kd : Hid (Cw w8 (w5.heap.size + 1) no A2 lo.length c2) := Cw.keep (Cw.setW Kd.out (by omega) _ _) hb
  replace B : Hid (Below w.heap.size w w8) := below_mono (below_setW B.out (by omega) _ _) hb
  clear hb
  (try dsimp only at hs4)
  (try dsimp only)
  clear Sd
  have Sd : Hid (Sl w8 A4 lt c4) := hs4
  clear hs4
  obtain ⟨qd0, qd1⟩ := Kd.out
  obtain ⟨fd0, fd1⟩ := Fd.out
  replace hzo := lF Ko
  replace hze := lC Ke
  replace hzq := lW Kq
  replace hzd := lW Kd
  obtain ⟨qq0, qq1⟩ := Kq.out
  obtain ⟨fq0, fq1⟩ := Fq.out
  go_wp2_with fail
  · refine (neg_any na _ la _ _ (Sq.out.setW Kd.out.1 Kd.out.2 _ _)).mono ?_
    rw [hN.out]
    rintro e w9 ⟨A6, c6, rfl, hs6, hb⟩
    clear qd0 qd1 fd0 fd1 qq0 qq1 fq0 fq1
    replace Sq : Hid (Sl w9 A3 la c3) := Sl.below (Sq.out.setW Kd.out.1 Kd.out.2 _ _) hb
    replace Sd : Hid (Sl w9 A4 lt c4) := Sl.below (Sd.out.setW Kd.out.1 Kd.out.2 _ _) hb
    replace Fo : Hid (Ff w9 w.heap.size) := Ff.keep (Ff.setW Fo.out _ _) (Cf.setW Ko.out (by omega) _ _) hb
    replace Fq : Hid (Fw w9 w5.heap.size) := Fw.keep (Fw.setW Fq.out _ _) (Cw.setW Kq.out (by omega) _ _) hb
    replace Fd : Hid (Fw w9 (w5.heap.size + 1)) := Fw.keep (Fw.setW Fd.out _ _) (Cw.new Kd.out) hb
    replace Ko : Hid (Cf w9 w.heap.size false none 0 0 false none 0 0) := Cf.keep (Cf.setW Ko.out (by omega) _ _) hb
    replace Ke : Hid (C1 w9 (w.heap.size + 1) (.int .i64 0)) := C1.keep (C1.setW Ke.out (by omega) _ _) hb
    replace Kq : Hid (Cw w9 w5.heap.size na A3 la.length c3) := Cw.keep (Cw.setW Kq.out (by omega) _ _) hb
    replace Kd : Hid (Cw w9 (w5.heap.size + 1) nt A4 lt.length c4) := Cw.keep (Cw.new Kd.out) hb
    replace B : Hid (Below w.heap.size w w9) := below_mono (below_setW B.out (by omega) _ _) hb
    clear hb
    (try dsimp only at hs6)
    (try dsimp only)
    have Sn : Hid (Sl w9 A6 ln c6) := hs6
    clear hs6
    obtain ⟨qq0, qq1⟩ := Kq.out
    obtain ⟨fq0, fq1⟩ := Fq.out
    obtain ⟨qd0, qd1⟩ := Kd.out
    obtain ⟨fd0, fd1⟩ := Fd.out
    replace hzo := lF Ko
    replace hze := lC Ke
    replace hzq := lW Kq
    replace hzd := lW Kd
    go_wp2_with fail
    refine (must_ok nn A6 ln.length c6 _).mono ?_
    rintro e w10 ⟨rfl, hb⟩
    clear qq0 qq1 fq0 fq1 qd0 qd1 fd0 fd1
    replace Sq := kS Sq hb
    replace Sd := kS Sd hb
    replace Sn := kS Sn hb
    replace Fo := kFf Fo Ko hb
    replace Fq := kFw Fq Kq hb
    replace Fd := kFw Fd Kd hb
    replace Ko := kF Ko hb
    replace Ke := kC Ke hb
    replace Kq := kW Kq hb
    replace Kd := kW Kd hb
    replace B := kB B hb
    clear hb
    obtain ⟨qq0, qq1⟩ := Kq.out
    obtain ⟨fq0, fq1⟩ := Fq.out
    obtain ⟨qd0, qd1⟩ := Kd.out
    obtain ⟨fd0, fd1⟩ := Fd.out
    replace hzo := lF Ko
    replace hze := lC Ke
    replace hzq := lW Kq
    replace hzd := lW Kd
    clear Sq
    have Sq := Sn
    go_wp2_with fail
    refine (make_any nn nt _ _ ln lt _ _ _ (Sq.out.setW Kq.out.1 Kq.out.2 _ _) (Sd.out.setW Kq.out.1 Kq.out.2 _ _)).mono ?_
    rw [hM1.out (by assumption)]
    rintro e w11 ⟨A8, c8, A9, c9, rfl, hs8, hs9, hb⟩
    clear qq0 qq1 fq0 fq1 qd0 qd1 fd0 fd1
    replace Sd : Hid (Sl w11 A4 lt c4) := Sl.below (Sd.out.setW Kq.out.1 Kq.out.2 _ _) hb
    replace Sq : Hid (Sl w11 A6 ln c6) := Sl.below (Sq.out.setW Kq.out.1 Kq.out.2 _ _) hb
    replace Fo : Hid (Ff w11 w.heap.size) := Ff.keep (Ff.setW Fo.out _ _) (Cf.setW Ko.out (by omega) _ _) hb
    replace Fq : Hid (Fw w11 w5.heap.size) := Fw.keep (Fw.setW Fq.out _ _) (Cw.new Kq.out) hb
    replace Fd : Hid (Fw w11 (w5.heap.size + 1)) := Fw.keep (Fw.setW Fd.out _ _) (Cw.setW Kd.out (by omega) _ _) hb
    replace Ko : Hid (Cf w11 w.heap.size false none 0 0 false none 0 0) := Cf.keep (Cf.setW Ko.out (by omega) _ _) hb
    replace Ke : Hid (C1 w11 (w.heap.size + 1) (.int .i64 0)) := C1.keep (C1.setW Ke.out (by omega) _ _) hb
    replace Kq : Hid (Cw w11 w5.heap.size nn A6 ln.length c6) := Cw.keep (Cw.new Kq.out) hb
    replace Kd : Hid (Cw w11 (w5.heap.size + 1) nt A4 lt.length c4) := Cw.keep (Cw.setW Kd.out (by omega) _ _) hb
    replace B : Hid (Below w.heap.size w w11) := below_mono (below_setW B.out (by omega) _ _) hb
    clear hb
    (try dsimp only at hs8 hs9)
    (try dsimp only)
    have Sx : Hid (Sl w11 A8 lx c8) := hs8
    clear hs8
    have Sy : Hid (Sl w11 A9 ly c9) := hs9
    clear hs9
    obtain ⟨qo0, qo1, qo2, qo3⟩ := Ko.out
    obtain ⟨fo0, fo1, fo2, fo3⟩ := Fo.out
    obtain ⟨qe0, qe1⟩ := Ke.out
    replace hzo := lF Ko
    replace hze := lC Ke
    replace hzq := lW Kq
    replace hzd := lW Kd
    go_wp2_with fail
    refine leaves_cons (f := 46) (args := #[.pointer (some ⟨w.heap.size + 1, 0, none⟩)]) (by simp) (by simp [go_sem]) ?_
    refine (catch_idle ⟨w.heap.size + 1, 0, none⟩ _).mono ?_
    rintro e u' w'' ⟨rfl, rfl, rfl⟩
    simp [Leaves, settle, results, Tryz.results10, go_sem, qo0, qo1, qo2, qo3, qe0]
    exact fres_store (r := ((nx, lx), (ny, ly))) kk Sx.out Sy.out Ko.out Ke.out (by omega) B.out (by omega) (by omega) _ _ _ _ _
  · refine (make_any na nt _ _ la lt _ _ _ (Sq.out.setW Kd.out.1 Kd.out.2 _ _) (Sd.out.setW Kd.out.1 Kd.out.2 _ _)).mono ?_
    rw [hM0.out (by assumption)]
    rintro e w9 ⟨A8, c8, A9, c9, rfl, hs8, hs9, hb⟩
    clear qd0 qd1 fd0 fd1 qq0 qq1 fq0 fq1
    replace Sq : Hid (Sl w9 A3 la c3) := Sl.below (Sq.out.setW Kd.out.1 Kd.out.2 _ _) hb
    replace Sd : Hid (Sl w9 A4 lt c4) := Sl.below (Sd.out.setW Kd.out.1 Kd.out.2 _ _) hb
    replace Fo : Hid (Ff w9 w.heap.size) := Ff.keep (Ff.setW Fo.out _ _) (Cf.setW Ko.out (by omega) _ _) hb
    replace Fq : Hid (Fw w9 w5.heap.size) := Fw.keep (Fw.setW Fq.out _ _) (Cw.setW Kq.out (by omega) _ _) hb
    replace Fd : Hid (Fw w9 (w5.heap.size + 1)) := Fw.keep (Fw.setW Fd.out _ _) (Cw.new Kd.out) hb
    replace Ko : Hid (Cf w9 w.heap.size false none 0 0 false none 0 0) := Cf.keep (Cf.setW Ko.out (by omega) _ _) hb
    replace Ke : Hid (C1 w9 (w.heap.size + 1) (.int .i64 0)) := C1.keep (C1.setW Ke.out (by omega) _ _) hb
    replace Kq : Hid (Cw w9 w5.heap.size na A3 la.length c3) := Cw.keep (Cw.setW Kq.out (by omega) _ _) hb
    replace Kd : Hid (Cw w9 (w5.heap.size + 1) nt A4 lt.length c4) := Cw.keep (Cw.new Kd.out) hb
    replace B : Hid (Below w.heap.size w w9) := below_mono (below_setW B.out (by omega) _ _) hb
    clear hb
    (try dsimp only at hs8 hs9)
    (try dsimp only)
    have Sx : Hid (Sl w9 A8 lx c8) := hs8
    clear hs8
    have Sy : Hid (Sl w9 A9 ly c9) := hs9
    clear hs9
    obtain ⟨qo0, qo1, qo2, qo3⟩ := Ko.out
    obtain ⟨fo0, fo1, fo2, fo3⟩ := Fo.out
    obtain ⟨qe0, qe1⟩ := Ke.out
    replace hzo := lF Ko
    replace hze := lC Ke
    replace hzq := lW Kq
    replace hzd := lW Kd
    go_wp2_with fail
    refine leaves_cons (f := 46) (args := #[.pointer (some ⟨w.heap.size + 1, 0, none⟩)]) (by simp) (by simp [go_sem]) ?_
    refine (catch_idle ⟨w.heap.size + 1, 0, none⟩ _).mono ?_
    rintro e u' w'' ⟨rfl, rfl, rfl⟩
    simp [Leaves, settle, results, Tryz.results10, go_sem, qo0, qo1, qo2, qo3, qe0]
    exact fres_store (r := ((nx, lx), (ny, ly))) kk Sx.out Sy.out Ko.out Ke.out (by omega) B.out (by omega) (by omega) _ _ _ _ _

end Go.Proofs.YtmelbahbjdogdaaGreatDoor
/- frac.Parse, at every string of at most 3000 bytes. -/
namespace Go.Proofs.YtmelbahbjdogdaaGreatDoor
open Go.RowKit Go.Shelf Go.Lib
theorem fparse_any (l : List UInt8) (hl : l.length ≤ 3000) (w : World) :
    Calls Tryz.prog 10 #[.string ⟨l.toArray⟩] w (FRes (parF l) w) := by
  unfold parF parQ
  by_cases h : 200 < l.length
  · rw [if_pos h]; exact parse_long l hl h w
  rw [if_neg h]
  have h : l.length ≤ 200 := by omega
  cases hh : headD (trimPrefix l [45]) with
  | nil => rw [if_pos rfl]; exact parse_nohead l h hh w
  | cons b t =>
  rw [if_neg (by simp)]
  unfold restQ
  cases hp2 : hasPrefix (tailD (trimPrefix l [45])) [47] with
  | true =>
    rw [if_pos rfl]
    cases hd : headD (trimPrefix (tailD (trimPrefix l [45])) [47]) with
    | nil => rw [if_neg (fun h => h.2 rfl)]; exact parse_slash0 l h _ _ _ t b rfl rfl hh rfl _ hp2 rfl hd w
    | cons x xs =>
      cases he : tailD (trimPrefix (tailD (trimPrefix l [45])) [47]) with
      | nil => rw [if_pos ⟨rfl, by simp⟩]; exact parse_slash l h _ _ _ t b rfl rfl hh rfl _ hp2 rfl x xs hd he w
      | cons y ys => rw [if_neg (fun h => by cases h.1)]; exact parse_slash1 l h _ _ _ t b rfl rfl hh rfl _ hp2 rfl x y xs ys hd he w
  | false =>
    rw [if_neg (by simp)]
    cases hp3 : hasPrefix (tailD (trimPrefix l [45])) [46] with
    | true =>
      rw [if_pos rfl]
      cases hd : headD (trimPrefix (tailD (trimPrefix l [45])) [46]) with
      | nil => rw [if_pos rfl]; exact parse_dot0 l h _ _ _ t b rfl rfl hh rfl hp2 _ hp3 rfl hd w
      | cons x xs =>
        rw [if_neg (by simp)]
        cases hs : sciS (tailD (trimPrefix (tailD (trimPrefix l [45])) [46])) with
        | none => exact parse_dot1 l h _ _ _ t b rfl rfl hh rfl hp2 _ hp3 rfl x xs _ hd rfl hs w
        | some k =>
          simp only [Option.map_some, powQ]
          by_cases hk : 0 ≤ k - ((x :: xs).length : Int)
          · rw [if_pos hk]; exact parse_dot_up l h _ _ _ t b rfl rfl hh rfl hp2 _ hp3 rfl x xs _ hd rfl k hs _ (by omega) w
          · rw [if_neg hk]; exact parse_dot_down l h _ _ _ t b rfl rfl hh rfl hp2 _ hp3 rfl x xs _ hd rfl k hs _ (by omega) (by omega) w
    | false =>
      rw [if_neg (by simp)]
      cases hs : sciS (tailD (trimPrefix l [45])) with
      | none => exact parse_not1 l h _ _ _ t b rfl rfl hh rfl hp2 hp3 hs w
      | some k =>
        simp only [Option.map_some, powQ]
        by_cases hk : 0 ≤ k - (([] : List UInt8).length : Int)
        · rw [if_pos hk]; exact parse_not_up l h _ _ _ t b rfl rfl hh rfl hp2 hp3 k hs _ (by omega) w
        · rw [if_neg hk]; exact parse_not_down l h _ _ _ t b rfl rfl hh rfl hp2 hp3 k hs _ (by omega) (by omega) w

end Go.Proofs.YtmelbahbjdogdaaGreatDoor

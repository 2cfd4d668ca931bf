/- Walk: the reference's Parse. -/
import Derived.Test.YtmelbahbjdogdaaGreatDoorF30
import Derived.Test.YtmelbahbjdogdaaGreatDoorF18
import Derived.Test.YtmelbahbjdogdaaGreatDoorFMathC
import Derived.Deep.RegionHeld3
import Derived.Deep.CutRange
import Derived.IntWalk
namespace Go.Proofs.YtmelbahbjdogdaaGreatDoor
open Go.RowKit Go.Lib
attribute [local go_sem ↓] Go.wp_at_zero Go.wp_at_succ
theorem pre_cons {q : List UInt8} {c : UInt8} (h : hasPrefix q [c] = true) : ∃ t, q = c :: t ∧ trimPrefix q [c] = t := by
  cases q with
  | nil => simp [hasPrefix] at h
  | cons d t =>
    by_cases hd : d = c
    · subst hd; exact ⟨t, rfl, tp_eq1 d t⟩
    · rw [hp_ne1 hd] at h; cases h

theorem pre_trim {q : List UInt8} {c : UInt8} (h : hasPrefix q [c] = false) : trimPrefix q [c] = q := by unfold trimPrefix; rw [h]; rfl

theorem u8_int_eq {c : UInt8} {k : Nat} (d : UInt8) (hd : d.toNat = k) : (((c.toNat : Nat) : Int) == (k : Int)) = decide (c = d) := by
  rw [Bool.eq_iff_iff, beq_iff_eq, decide_eq_true_iff]
  constructor
  · intro e; exact UInt8.toNat_inj.1 (by omega)
  · rintro rfl; omega

theorem ext1 (c : UInt8) (t : List UInt8) : (ByteArray.mk (c :: t).toArray).extract 1 (t.length + 1) = ⟨t.toArray⟩ := by apply ByteArray.ext; simp [ByteArray.data_extract]

theorem split_eq (l H T : List UInt8) (h1 : H = headD l) (h2 : T = tailD l) (hl : l.length ≤ 3000) (w : World) :
    Calls Tryz.prog 58 #[.string ⟨l.toArray⟩] w fun e w' => e = .returned (.tuple #[.string ⟨H.toArray⟩, .string ⟨T.toArray⟩]) ∧ Below w.heap.size w w' := by subst h1; subst h2; exact split_any l hl w

theorem rvalue_eq (b : UInt8) (t : List UInt8) (n : Bool) (v : List Nat) (h : (n, v) = wOf ((dv (b :: t) : Nat) : Int)) (hd : Dig (b :: t)) (hl : (b :: t).length ≤ 3000) (w : World) :
    Calls Tryz.prog 59 #[.string ⟨(b :: t).toArray⟩] w (WRes1 (n, v) w) := by rw [h]; exact rvalue_any (b :: t) hd (by simp) hl w

/-- What Parse knows behind the numeral: numerator and denominator in their boxes. -/
def RPar (w : World) (gn gd : Nat) (m : Bool) (l : List UInt8) (wx : World) : Prop := ∃ (x : Nat) (Y : Int) (nn : Bool) (ln : List Nat) (A : Option Addr) (c : Nat) (nd : Bool) (ld : List Nat) (B : Option Addr) (d : Nat),
  parQ l = some (sgn m x, Y) ∧ VZ nn ln (x : Int) ∧ VZ nd ld Y ∧ Cf wx w.heap.size false none 0 0 false none 0 0 ∧ Ff wx w.heap.size ∧ Cw wx gn nn A ln.length c ∧ Fw wx gn ∧ Cw wx gd nd B ld.length d ∧ Sl wx A ln c ∧ Sl wx B ld d ∧ Below w.heap.size w wx

/-- .. in the loop of the denominator. -/
def RDen (w : World) (gn gd : Nat) (nn : Bool) (ln : List Nat) (A : Option Addr) (c i : Nat) (wx : World) : Prop := ∃ (nd : Bool) (ld : List Nat) (B : Option Addr) (d : Nat),
  VZ nd ld ((10 : Int) ^ i) ∧ Cf wx w.heap.size false none 0 0 false none 0 0 ∧ Ff wx w.heap.size ∧ Cw wx gn nn A ln.length c ∧ Fw wx gn ∧ Cw wx gd nd B ld.length d ∧ Fw wx gd ∧ Sl wx A ln c ∧ Sl wx B ld d ∧ Below w.heap.size w wx

theorem rvalue_eq2 (l : List UInt8) (n : Bool) (v : List Nat) (h : (n, v) = wOf ((dv l : Nat) : Int)) (hd : Dig l) (hne : l ≠ []) (hl : l.length ≤ 3000) (w : World) :
    Calls Tryz.prog 59 #[.string ⟨l.toArray⟩] w (WRes1 (n, v) w) := by rw [h]; exact rvalue_any l hd hne hl w

theorem dv_le10 {l : List UInt8} (h : Dig l) : (dv l) ≤ 10 ^ l.length := Nat.le_of_lt (dv_lt h)

theorem fit_mul10 {X j a : Nat} (h : X ≤ 10 ^ a) (ha : a + j ≤ 3000) : fitZ ((X * 10 ^ j : Nat) : Int) :=
  fit_ten (k := a + j) (by rw [Int.natAbs_natCast, Nat.pow_add]; exact Nat.mul_le_mul h (Nat.le_refl _)) ha

def sgi (m : Bool) : Int := if m then -1 else 1

theorem parF_long {l : List UInt8} (h : 200 < l.length) : parF l = (zF, 12) := by unfold parF parQ; rw [if_pos h]

theorem parF_none {l : List UInt8} (h : parQ l = none) : parF l = (zF, 12) := by unfold parF; rw [h]

theorem parF_some {l : List UInt8} {x y : Int} (h : parQ l = some (x, y)) : parF l = ofS x y := by unfold parF; rw [h]

set_option maxRecDepth 100000 in
set_option maxHeartbeats 4000000 in
theorem rfparse_long (l : List UInt8) (hl : l.length ≤ 3000) (h : 200 < l.length) (w : World) :
    Calls Tryz.prog 11 #[.string ⟨l.toArray⟩] w (FRes (parF l) w) := by
  have hp := parF_long h
  rw [hp]
  clear hp
  have t1 : decide (200 < l.length) = true := decide_eq_true h
  have t2 : decide ((200 : Int) < (l.length : Int)) = true := decide_eq_true (by omega)
  clear h
  have B : Hid (Below w.heap.size w w) := Below.refl _ _
  go_enter Tryz.func11, Tryz.ntmps11
  go_wp2
  exact bodyPost_ret (v := .tuple #[.agg #[.bool false, .slice none 0 0, .bool false, .slice none 0 0], .int .i64 12]) (by simp [results, Tryz.results11, go_sem]) rfl ⟨none, 0, none, 0, rfl, Sl.nil _ _ _, Sl.nil _ _ _, blw1 _ _⟩

set_option maxRecDepth 100000 in
set_option maxHeartbeats 4000000 in
theorem rfparse_short (l : List UInt8) (hl : l.length ≤ 200) (w : World) :
    Calls Tryz.prog 11 #[.string ⟨l.toArray⟩] w (FRes (parF l) w) := by
  obtain ⟨m, hm⟩ : ∃ m, m = hasPrefix l [45] := ⟨_, rfl⟩
  obtain ⟨r, hr⟩ : ∃ r, r = trimPrefix l [45] := ⟨_, rfl⟩
  have hrl : r.length ≤ 200 := by rw [hr]; exact Nat.le_trans (trimP_len _ _) hl
  have hP : parQ l = if headD r = [] then none else restQ m (headD r) (tailD r) := by unfold parQ; rw [if_neg (by omega), ← hr, ← hm]
  have HM := Lib.hid hm
  have HR := Lib.hid hr
  have HP := Lib.hid hP
  have t1 : decide (200 < l.length) = false := decide_eq_false (by omega)
  have t2 : decide ((200 : Int) < (l.length : Int)) = false := decide_eq_false (by omega)
  clear hm hr hP
  have B : Hid (Below w.heap.size w w) := Below.refl _ _
  go_enter Tryz.func11, Tryz.ntmps11
  go_upto_region 3 with fail
  have Fo : Hid (Ff (w.alloc (.cells #[.bool false, .slice none 0 0, .bool false, .slice none 0 0] 26)) w.heap.size) := (Ff.fresh (by simp) _ _)
  have Ko : Hid (Cf (w.alloc (.cells #[.bool false, .slice none 0 0, .bool false, .slice none 0 0] 26)) w.heap.size false none 0 0 false none 0 0) := (Cf.fresh (by simp) _ _ _ _ _ _ _ _ _)
  replace B : Hid (Below w.heap.size w (w.alloc (.cells #[.bool false, .slice none 0 0, .bool false, .slice none 0 0] 26))) := (below_mono B.out (blw1 _ _))
  generalize w.alloc (.cells #[.bool false, .slice none 0 0, .bool false, .slice none 0 0] 26) = wz at *
  have hzo := lF Ko
  go_cut [4] from 25 to 32 (fun s4 wx => s4 = .bool m ∧ wz = wx)
  case first =>
    rcases l with _ | ⟨c0, t0⟩
    · obtain rfl : m = false := HM.out
      go_wp2_with fail
      go_meet
      exact ⟨rfl, rfl⟩
    · have hsz : (ByteArray.mk (c0 :: t0).toArray).size = t0.length + 1 := by simp [ByteArray.size]
      have hget : (ByteArray.mk (c0 :: t0).toArray)[0]'(by simp [ByteArray.size]) = c0 := rfl
      by_cases hc : c0 = 45
      · have hc2 : ((c0.toNat : Int) == 45) = true := (u8_int_eq (k := 45) 45 rfl).trans (decide_eq_true hc)
        obtain rfl : m = true := HM.out.trans (by rw [hc]; exact hp_eq1 _ _)
        clear hc
        go_wp2_with fail
        go_meet
        exact ⟨rfl, rfl⟩
      · have hc2 : ((c0.toNat : Int) == 45) = false := (u8_int_eq (k := 45) 45 rfl).trans (decide_eq_false hc)
        obtain rfl : m = false := HM.out.trans (hp_ne1 hc)
        clear hc
        go_wp2_with fail
        go_meet
        exact ⟨rfl, rfl⟩
  case rest =>
    obtain ⟨rfl, rfl⟩ := hcut
    go_upto_if 33 with (fail)
    go_cut [0] from 33 to 35 (fun s0 wx => s0 = .string ⟨r.toArray⟩ ∧ wz = wx)
    case first =>
      cases m
      · have e0 := pre_trim HM.out.symm
        have e1 := HR.out.trans e0
        clear e0
        obtain rfl := e1
        go_wp2_with fail
        go_meet
        exact ⟨rfl, rfl⟩
      · obtain ⟨t0, e0, e1⟩ := pre_cons HM.out.symm
        have e2 := HR.out.trans e1
        clear e1
        obtain rfl := e2
        obtain rfl := e0
        have hsz : (ByteArray.mk (45 :: r).toArray).size = r.length + 1 := by simp [ByteArray.size]
        have hext := ext1 45 r
        go_wp2_with fail
        go_meet
        exact ⟨rfl, rfl⟩
    case rest =>
      obtain ⟨rfl, rfl⟩ := hcut
      obtain ⟨H, hH⟩ : ∃ H, H = headD r := ⟨_, rfl⟩
      obtain ⟨q, hq⟩ : ∃ q, q = tailD r := ⟨_, rfl⟩
      have HH := Lib.hid hH
      have HQ := Lib.hid hq
      have hlen := headD_len r
      rw [← hH, ← hq] at hlen
      clear hH hq
      go_wp2_with fail
      refine (split_eq r H q HH.out HQ.out (by omega) _).mono ?_
      rintro e w1 ⟨rfl, hb⟩
      replace Fo := kFf Fo Ko hb
      replace Ko := kF Ko hb
      replace B := kB B hb
      clear hb
      obtain ⟨qo0, qo1, qo2, qo3⟩ := Ko.out
      obtain ⟨fo0, fo1, fo2, fo3⟩ := Fo.out
      replace hzo := lF Ko
      rcases H with _ | ⟨b, tH⟩
      · have E : parF l = (zF, 12) := parF_none (by rw [HP.out, if_pos HH.out.symm])
        have HE := Lib.hid E
        clear E
        go_wp2
        rw [HE.out]
        exact bodyPost_ret (v := .tuple #[.agg #[.bool false, .slice none 0 0, .bool false, .slice none 0 0], .int .i64 12]) (by simp [results, Tryz.results11, go_sem, qo0, qo1, qo2, qo3]) rfl (fres_store4 (r := zF) 12 (Sl.nil _ none 0) (Sl.nil _ none 0) Ko.out B.out (by omega) _ _ _ _)
      have HRest : Hid (parQ l = restQ m (b :: tH) q) := by rw [Hid, HP.out, if_neg (by rw [← HH.out]; simp), ← HH.out, ← HQ.out]
      have Hdig : Hid (Dig (b :: tH)) := by rw [Hid, HH.out]; exact headD_dig _
      rw [List.length_cons] at hlen
      obtain ⟨⟨nn, ln⟩, hn⟩ : ∃ p, p = wOf ((dv (b :: tH) : Nat) : Int) := ⟨_, rfl⟩
      obtain ⟨⟨no, lo⟩, ho⟩ : ∃ p, p = wOf (1 : Int) := ⟨_, rfl⟩
      have vn : Hid (VZ nn ln ((dv (b :: tH) : Nat) : Int)) := vz_mk hn (fit_dv Hdig.out (by rw [List.length_cons]; omega))
      have vo : Hid (VZ no lo 1) := vz_mk ho fit_one
      have hOne : Hid (∀ W, Calls Tryz.prog 30 #[.int .i64 1] W (WRes1 (no, lo) W)) := fun W => by rw [ho]; exact rfrom_any 1 W (by omega) (by omega)
      have Hn := Lib.hid hn
      clear HP HH HQ HM HR hn ho t1 t2
      go_wp2_with fail
      refine (rvalue_eq b tH nn ln Hn.out Hdig.out (by rw [List.length_cons]; omega) _).mono ?_
      rintro e w2 ⟨A2, c2, rfl, hs2, hb⟩
      clear qo0 qo1 qo2 qo3 fo0 fo1 fo2 fo3
      replace Fo := kFf Fo Ko hb
      replace Ko := kF Ko hb
      replace B := kB B hb
      clear hb
      (try dsimp only at hs2)
      (try dsimp only)
      have Sn : Hid (Sl w2 A2 ln c2) := hs2
      clear hs2
      replace hzo := lF Ko
      go_wp2_with fail
      refine (hOne.out _).mono ?_
      rintro e w3 ⟨A3, c3, rfl, hs3, hb⟩
      replace Sn := kS Sn hb
      replace Fo := kFf Fo Ko hb
      replace Ko := kF Ko hb
      replace B := kB B hb
      clear hb
      (try dsimp only at hs3)
      (try dsimp only)
      have Sd : Hid (Sl w3 A3 lo c3) := hs3
      clear hs3
      replace hzo := lF Ko
      have hkon := hzo
      have hkod := hzo
      obtain ⟨m47, hm47⟩ : ∃ m, m = hasPrefix q [47] := ⟨_, rfl⟩
      have HM47 := Lib.hid hm47
      clear hm47
      go_upto_region 10 with fail
      replace Sn : Hid (Sl ((w3.alloc (.cells #[.bool nn, .slice A2 ln.length c2] 24)).alloc (.cells #[.bool no, .slice A3 lo.length c3] 24)) A2 ln c2) := ((Sn.out.alloc _).alloc _)
      replace Sd : Hid (Sl ((w3.alloc (.cells #[.bool nn, .slice A2 ln.length c2] 24)).alloc (.cells #[.bool no, .slice A3 lo.length c3] 24)) A3 lo c3) := ((Sd.out.alloc _).alloc _)
      replace Fo : Hid (Ff ((w3.alloc (.cells #[.bool nn, .slice A2 ln.length c2] 24)).alloc (.cells #[.bool no, .slice A3 lo.length c3] 24)) w.heap.size) := (Ff.keep (Ff.keep Fo.out Ko.out (blw1 _ _)) (Cf.keep Ko.out (blw1 _ _)) (blw1 _ _))
      have Fn : Hid (Fw ((w3.alloc (.cells #[.bool nn, .slice A2 ln.length c2] 24)).alloc (.cells #[.bool no, .slice A3 lo.length c3] 24)) w3.heap.size) := (Fw.keep (Fw.fresh (by simp) _ _) (Cw.fresh (by simp) _ _ _ _ _) (blw1 _ _))
      have Fd : Hid (Fw ((w3.alloc (.cells #[.bool nn, .slice A2 ln.length c2] 24)).alloc (.cells #[.bool no, .slice A3 lo.length c3] 24)) (w3.heap.size + 1)) := (Fw.fresh (by simp) _ _)
      replace Ko : Hid (Cf ((w3.alloc (.cells #[.bool nn, .slice A2 ln.length c2] 24)).alloc (.cells #[.bool no, .slice A3 lo.length c3] 24)) w.heap.size false none 0 0 false none 0 0) := (Cf.keep (Cf.keep Ko.out (blw1 _ _)) (blw1 _ _))
      have Kn : Hid (Cw ((w3.alloc (.cells #[.bool nn, .slice A2 ln.length c2] 24)).alloc (.cells #[.bool no, .slice A3 lo.length c3] 24)) w3.heap.size nn A2 ln.length c2) := (Cw.keep (Cw.fresh (by simp) _ _ _ _ _) (blw1 _ _))
      have Kd : Hid (Cw ((w3.alloc (.cells #[.bool nn, .slice A2 ln.length c2] 24)).alloc (.cells #[.bool no, .slice A3 lo.length c3] 24)) (w3.heap.size + 1) no A3 lo.length c3) := (Cw.fresh (by simp) _ _ _ _ _)
      replace B : Hid (Below w.heap.size w ((w3.alloc (.cells #[.bool nn, .slice A2 ln.length c2] 24)).alloc (.cells #[.bool no, .slice A3 lo.length c3] 24))) := (below_mono (below_mono B.out (blw1 _ _)) (blw1 _ _))
      generalize (w3.alloc (.cells #[.bool nn, .slice A2 ln.length c2] 24)).alloc (.cells #[.bool no, .slice A3 lo.length c3] 24) = wq at *
      have hzo := lF Ko
      have hzn := lW Kn
      have hzd := lW Kd
      go_cut [54] from 47 to 54 (fun s54 wx => s54 = .bool m47 ∧ wq = wx)
      case first =>
        rcases q with _ | ⟨c0, t0⟩
        · obtain rfl : m47 = false := HM47.out
          go_wp2_with fail
          go_meet
          exact ⟨rfl, rfl⟩
        · have hsz : (ByteArray.mk (c0 :: t0).toArray).size = t0.length + 1 := by simp [ByteArray.size]
          have hget : (ByteArray.mk (c0 :: t0).toArray)[0]'(by simp [ByteArray.size]) = c0 := rfl
          by_cases hc : c0 = 47
          · have hc2 : ((c0.toNat : Int) == 47) = true := (u8_int_eq (k := 47) 47 rfl).trans (decide_eq_true hc)
            obtain rfl : m47 = true := HM47.out.trans (by rw [hc]; exact hp_eq1 _ _)
            clear hc
            go_wp2_with fail
            go_meet
            exact ⟨rfl, rfl⟩
          · have hc2 : ((c0.toNat : Int) == 47) = false := (u8_int_eq (k := 47) 47 rfl).trans (decide_eq_false hc)
            obtain rfl : m47 = false := HM47.out.trans (hp_ne1 hc)
            clear hc
            go_wp2_with fail
            go_meet
            exact ⟨rfl, rfl⟩
      case rest =>
        obtain ⟨rfl, rfl⟩ := hcut
        go_upto_if 54 with (fail)
        go_cut [] from 55 to 183 (fun wx => RPar w w3.heap.size (w3.heap.size + 1) m l wx)
        case first =>
          cases m47 with
          | true =>
            obtain ⟨e, e0, e1⟩ := pre_cons HM47.out.symm
            have H47 : Hid (parQ l = if tailD e = [] ∧ headD e ≠ [] then some (sgn m (dv (b :: tH)), ((dv (headD e) : Nat) : Int)) else none) := by
              rw [Hid, HRest.out]
              unfold restQ
              rw [← HM47.out, if_pos rfl, e1]
            clear e1
            obtain rfl := e0
            rw [List.length_cons] at hlen
            have hsz : (ByteArray.mk (47 :: e).toArray).size = e.length + 1 := by simp [ByteArray.size]
            have hext := ext1 47 e
            obtain ⟨D, hD⟩ : ∃ D, D = headD e := ⟨_, rfl⟩
            obtain ⟨E, hE⟩ : ∃ E, E = tailD e := ⟨_, rfl⟩
            have HD := Lib.hid hD
            have HE := Lib.hid hE
            have hlen2 := headD_len e
            rw [← hD, ← hE] at hlen2
            clear hD hE
            go_wp2_with fail
            refine (split_eq e D E HD.out HE.out (by omega) _).mono ?_
            rintro e w4 ⟨rfl, hb⟩
            replace Sn := kS Sn hb
            replace Sd := kS Sd hb
            replace Fo := kFf Fo Ko hb
            replace Fn := kFw Fn Kn hb
            replace Fd := kFw Fd Kd hb
            replace Ko := kF Ko hb
            replace Kn := kW Kn hb
            replace Kd := kW Kd hb
            replace B := kB B hb
            clear hb
            clear hsz hext
            obtain ⟨qo0, qo1, qo2, qo3⟩ := Ko.out
            obtain ⟨fo0, fo1, fo2, fo3⟩ := Fo.out
            obtain ⟨qn0, qn1⟩ := Kn.out
            obtain ⟨fn0, fn1⟩ := Fn.out
            obtain ⟨qd0, qd1⟩ := Kd.out
            obtain ⟨fd0, fd1⟩ := Fd.out
            replace hzo := lF Ko
            replace hzn := lW Kn
            replace hzd := lW Kd
            rcases D with _ | ⟨x0, xs⟩
            · have E0 : parF l = (zF, 12) := parF_none (by rw [H47.out, if_neg (fun h => h.2 HD.out.symm)])
              have HE0 := Lib.hid E0
              clear E0
              go_wp2
              rw [HE0.out]
              exact bodyPost_ret (v := .tuple #[.agg #[.bool false, .slice none 0 0, .bool false, .slice none 0 0], .int .i64 12]) (by simp [results, Tryz.results11, go_sem, qo0, qo1, qo2, qo3]) rfl (fres_store4 (r := zF) 12 (Sl.nil _ none 0) (Sl.nil _ none 0) Ko.out B.out (by omega) _ _ _ _)
            rcases E with _ | ⟨y0, ys⟩
            rotate_left
            · have E0 : parF l = (zF, 12) := parF_none (by rw [H47.out, if_neg (fun h => by have := HE.out.trans h.1; cases this)])
              have HE0 := Lib.hid E0
              clear E0
              go_wp2
              rw [HE0.out]
              exact bodyPost_ret (v := .tuple #[.agg #[.bool false, .slice none 0 0, .bool false, .slice none 0 0], .int .i64 12]) (by simp [results, Tryz.results11, go_sem, qo0, qo1, qo2, qo3]) rfl (fres_store4 (r := zF) 12 (Sl.nil _ none 0) (Sl.nil _ none 0) Ko.out B.out (by omega) _ _ _ _)
            have H48 : Hid (parQ l = some (sgn m (dv (b :: tH)), ((dv (x0 :: xs) : Nat) : Int))) := by rw [Hid, H47.out, if_pos ⟨HE.out.symm, by rw [← HD.out]; simp⟩, ← HD.out]
            have Hdig2 : Hid (Dig (x0 :: xs)) := by rw [Hid, HD.out]; exact headD_dig _
            rw [List.length_cons] at hlen2
            obtain ⟨⟨nd, ld⟩, hd⟩ : ∃ p, p = wOf ((dv (x0 :: xs) : Nat) : Int) := ⟨_, rfl⟩
            have vd : Hid (VZ nd ld ((dv (x0 :: xs) : Nat) : Int)) := vz_mk hd (fit_dv Hdig2.out (by rw [List.length_cons]; omega))
            have Hd := Lib.hid hd
            clear hd
            go_wp2_with fail
            refine (rvalue_eq x0 xs nd ld Hd.out Hdig2.out (by rw [List.length_cons]; omega) _).mono ?_
            rintro e w5 ⟨A5, c5, rfl, hs5, hb⟩
            clear qo0 qo1 qo2 qo3 fo0 fo1 fo2 fo3 qn0 qn1 fn0 fn1 qd0 qd1 fd0 fd1
            replace Sn := kS Sn hb
            replace Sd := kS Sd hb
            replace Fo := kFf Fo Ko hb
            replace Fn := kFw Fn Kn hb
            replace Fd := kFw Fd Kd hb
            replace Ko := kF Ko hb
            replace Kn := kW Kn hb
            replace Kd := kW Kd hb
            replace B := kB B hb
            clear hb
            (try dsimp only at hs5)
            (try dsimp only)
            have Se : Hid (Sl w5 A5 ld c5) := hs5
            clear hs5
            replace hzo := lF Ko
            replace hzn := lW Kn
            replace hzd := lW Kd
            obtain ⟨qo0, qo1, qo2, qo3⟩ := Ko.out
            obtain ⟨fo0, fo1, fo2, fo3⟩ := Fo.out
            obtain ⟨qn0, qn1⟩ := Kn.out
            obtain ⟨fn0, fn1⟩ := Fn.out
            obtain ⟨qd0, qd1⟩ := Kd.out
            obtain ⟨fd0, fd1⟩ := Fd.out
            go_wp2_with fail
            go_meet
            exact ⟨dv (b :: tH), _, _, _, _, _, _, _, _, _, H48.out, vn.out, vd.out, (Cf.setW Ko.out (by omega) _ _), (Ff.setW Fo.out _ _), (Cw.setW Kn.out (by omega) _ _), (Fw.setW Fn.out _ _), (Cw.new Kd.out), (Sn.out.setW Kd.out.1 Kd.out.2 _ _), (Se.out.setW Kd.out.1 Kd.out.2 _ _), (below_setW B.out (by omega) _ _)⟩
          | false =>
            obtain ⟨m46, hm46⟩ : ∃ m, m = hasPrefix q [46] := ⟨_, rfl⟩
            have HM46 := Lib.hid hm46
            clear hm46
            have H47 : Hid (parQ l = if m46 then if headD (trimPrefix q [46]) = [] then none else (sciS (tailD (trimPrefix q [46]))).map (powQ m (b :: tH) (headD (trimPrefix q [46]))) else (sciS q).map (powQ m (b :: tH) [])) := by
              rw [Hid, HRest.out]
              unfold restQ
              rw [← HM47.out, ← HM46.out]
              rfl
            go_upto_region 16 with fail
            go_cut [77] from 70 to 77 (fun s77 wx => s77 = .bool m46 ∧ wq = wx)
            case first =>
              rcases q with _ | ⟨c0, t0⟩
              · obtain rfl : m46 = false := HM46.out
                go_wp2_with fail
                go_meet
                exact ⟨rfl, rfl⟩
              · have hsz : (ByteArray.mk (c0 :: t0).toArray).size = t0.length + 1 := by simp [ByteArray.size]
                have hget : (ByteArray.mk (c0 :: t0).toArray)[0]'(by simp [ByteArray.size]) = c0 := rfl
                by_cases hc : c0 = 46
                · have hc2 : ((c0.toNat : Int) == 46) = true := (u8_int_eq (k := 46) 46 rfl).trans (decide_eq_true hc)
                  obtain rfl : m46 = true := HM46.out.trans (by rw [hc]; exact hp_eq1 _ _)
                  clear hc
                  go_wp2_with fail
                  go_meet
                  exact ⟨rfl, rfl⟩
                · have hc2 : ((c0.toNat : Int) == 46) = false := (u8_int_eq (k := 46) 46 rfl).trans (decide_eq_false hc)
                  obtain rfl : m46 = false := HM46.out.trans (hp_ne1 hc)
                  clear hc
                  go_wp2_with fail
                  go_meet
                  exact ⟨rfl, rfl⟩
            case rest =>
              obtain ⟨rfl, rfl⟩ := hcut
              go_upto_if 77 with (fail)
              go_cut [6, 11] from 78 to 86 (fun s6 s11 wx => ∃ p t : List UInt8, s6 = .string ⟨t.toArray⟩ ∧ s11 = .string ⟨p.toArray⟩ ∧ parQ l = (sciS t).map (powQ m (b :: tH) p) ∧ Dig p ∧ p.length + t.length ≤ q.length ∧ Below wq.heap.size wq wx)
              case first =>
                cases m46 with
                | false =>
                  go_wp2_with fail
                  go_meet
                  exact ⟨[], q, rfl, rfl, H47.out, dig_nil, by simp, Below.refl _ _⟩
                | true =>
                  obtain ⟨e, e0, e1⟩ := pre_cons HM46.out.symm
                  have H46 : Hid (parQ l = if headD e = [] then none else (sciS (tailD e)).map (powQ m (b :: tH) (headD e))) := by
                    rw [Hid, H47.out, if_pos rfl, e1]
                  clear e1
                  obtain rfl := e0
                  rw [List.length_cons] at hlen
                  have hsz : (ByteArray.mk (46 :: e).toArray).size = e.length + 1 := by simp [ByteArray.size]
                  have hext := ext1 46 e
                  obtain ⟨D, hD⟩ : ∃ D, D = headD e := ⟨_, rfl⟩
                  obtain ⟨E, hE⟩ : ∃ E, E = tailD e := ⟨_, rfl⟩
                  have HD := Lib.hid hD
                  have HE := Lib.hid hE
                  have hlen2 := headD_len e
                  rw [← hD, ← hE] at hlen2
                  clear hD hE
                  go_wp2_with fail
                  refine (split_eq e D E HD.out HE.out (by omega) _).mono ?_
                  rintro e w4 ⟨rfl, hb⟩
                  replace Sn := kS Sn hb
                  replace Sd := kS Sd hb
                  replace Fo := kFf Fo Ko hb
                  replace Fn := kFw Fn Kn hb
                  replace Fd := kFw Fd Kd hb
                  replace Ko := kF Ko hb
                  replace Kn := kW Kn hb
                  replace Kd := kW Kd hb
                  replace B := kB B hb
                  have HBQ := Lib.hid hb
                  clear hb
                  clear hsz hext
                  obtain ⟨qo0, qo1, qo2, qo3⟩ := Ko.out
                  obtain ⟨fo0, fo1, fo2, fo3⟩ := Fo.out
                  obtain ⟨qn0, qn1⟩ := Kn.out
                  obtain ⟨fn0, fn1⟩ := Fn.out
                  obtain ⟨qd0, qd1⟩ := Kd.out
                  obtain ⟨fd0, fd1⟩ := Fd.out
                  replace hzo := lF Ko
                  replace hzn := lW Kn
                  replace hzd := lW Kd
                  rcases D with _ | ⟨x0, xs⟩
                  · have E0 : parF l = (zF, 12) := parF_none (by rw [H46.out, if_pos HD.out.symm])
                    have HE0 := Lib.hid E0
                    clear E0
                    go_wp2
                    rw [HE0.out]
                    exact bodyPost_ret (v := .tuple #[.agg #[.bool false, .slice none 0 0, .bool false, .slice none 0 0], .int .i64 12]) (by simp [results, Tryz.results11, go_sem, qo0, qo1, qo2, qo3]) rfl (fres_store4 (r := zF) 12 (Sl.nil _ none 0) (Sl.nil _ none 0) Ko.out B.out (by omega) _ _ _ _)
                  go_wp2_with fail
                  go_meet
                  exact ⟨x0 :: xs, E, rfl, rfl, by rw [H46.out, if_neg (by rw [← HD.out]; simp), ← HD.out, ← HE.out], by rw [HD.out]; exact headD_dig _, by simp only [List.length_cons] at hlen2 ⊢; omega, HBQ.out⟩
              case rest =>
                obtain ⟨p, t, rfl, rfl, hP2, hdp, hlp, hb⟩ := hcut
                have HP2 := Lib.hid hP2
                have HDP := Lib.hid hdp
                clear hP2 hdp HM46 H47
                replace Sn := kS Sn hb
                replace Sd := kS Sd hb
                replace Fo := kFf Fo Ko hb
                replace Fn := kFw Fn Kn hb
                replace Fd := kFw Fd Kd hb
                replace Ko := kF Ko hb
                replace Kn := kW Kn hb
                replace Kd := kW Kd hb
                replace B := kB B hb
                clear hb
                generalize wc = wp at *
                replace hzo := lF Ko
                replace hzn := lW Kn
                replace hzd := lW Kd
                obtain ⟨me, hme⟩ : ∃ m, m = hasPrefix t [101] := ⟨_, rfl⟩
                have HME := Lib.hid hme
                clear hme
                go_upto_region 21 with fail
                go_cut [94] from 87 to 94 (fun s94 wx => s94 = .bool me ∧ wp = wx)
                case first =>
                  rcases t with _ | ⟨c0, t0⟩
                  · obtain rfl : me = false := HME.out
                    go_wp2_with fail
                    go_meet
                    exact ⟨rfl, rfl⟩
                  · have hsz : (ByteArray.mk (c0 :: t0).toArray).size = t0.length + 1 := by simp [ByteArray.size]
                    have hget : (ByteArray.mk (c0 :: t0).toArray)[0]'(by simp [ByteArray.size]) = c0 := rfl
                    by_cases hc : c0 = 101
                    · have hc2 : ((c0.toNat : Int) == 101) = true := (u8_int_eq (k := 101) 101 rfl).trans (decide_eq_true hc)
                      obtain rfl : me = true := HME.out.trans (by rw [hc]; exact hp_eq1 _ _)
                      clear hc
                      go_wp2_with fail
                      go_meet
                      exact ⟨rfl, rfl⟩
                    · have hc2 : ((c0.toNat : Int) == 101) = false := (u8_int_eq (k := 101) 101 rfl).trans (decide_eq_false hc)
                      obtain rfl : me = false := HME.out.trans (hp_ne1 hc)
                      clear hc
                      go_wp2_with fail
                      go_meet
                      exact ⟨rfl, rfl⟩
                case rest =>
                  obtain ⟨rfl, rfl⟩ := hcut
                  go_upto_if 94 with (fail)
                  go_cut [6, 12] from 95 to 137 (fun s6 s12 wx => ∃ (u : List UInt8) (k : Int), s6 = .string ⟨u.toArray⟩ ∧ s12 = .int .i64 k ∧ sciS t = (if u = [] then some k else none) ∧ -999 ≤ k ∧ k ≤ 999 ∧ Below wp.heap.size wp wx)
                  case first =>
                    cases me with
                    | false =>
                      have H0 : sciS t = (if t = [] then some 0 else none) := by
                        unfold sciS
                        rw [← HME.out]
                        split
                        · rfl
                        · rfl
                      have H1 := Lib.hid H0
                      clear H0
                      go_wp2_with fail
                      go_meet
                      exact ⟨t, 0, rfl, rfl, H1.out, by omega, by omega, Below.refl _ _⟩
                    | true =>
                      obtain ⟨e, e0, e1⟩ := pre_cons HME.out.symm
                      obtain ⟨mn, hmn⟩ : ∃ m, m = hasPrefix e [45] := ⟨_, rfl⟩
                      obtain ⟨a, ha⟩ : ∃ a, a = trimPrefix e [45] := ⟨_, rfl⟩
                      have HS : Hid (sciS t = if tailD a = [] ∧ headD a ≠ [] ∧ (headD a).length ≤ 3 then some (sgn mn (dv (headD a))) else none) := by
                        rw [Hid]
                        unfold sciS
                        rw [if_neg (by rw [e0]; simp), ← HME.out, if_neg (by simp), e1, ← ha, ← hmn]
                      have hal : a.length ≤ e.length := by rw [ha]; exact trimP_len _ _
                      have HMN := Lib.hid hmn
                      have HA := Lib.hid ha
                      clear e1 hmn ha
                      obtain rfl := e0
                      rw [List.length_cons] at hlp
                      have hsz : (ByteArray.mk (101 :: e).toArray).size = e.length + 1 := by simp [ByteArray.size]
                      have hext := ext1 101 e
                      go_upto_region 24 with fail
                      clear hsz hext
                      go_cut [104] from 97 to 104 (fun s104 wx => s104 = .bool mn ∧ wp = wx)
                      case first =>
                        rcases e with _ | ⟨c0, t0⟩
                        · obtain rfl : mn = false := HMN.out
                          go_wp2_with fail
                          go_meet
                          exact ⟨rfl, rfl⟩
                        · have hsz : (ByteArray.mk (c0 :: t0).toArray).size = t0.length + 1 := by simp [ByteArray.size]
                          have hget : (ByteArray.mk (c0 :: t0).toArray)[0]'(by simp [ByteArray.size]) = c0 := rfl
                          by_cases hc : c0 = 45
                          · have hc2 : ((c0.toNat : Int) == 45) = true := (u8_int_eq (k := 45) 45 rfl).trans (decide_eq_true hc)
                            obtain rfl : mn = true := HMN.out.trans (by rw [hc]; exact hp_eq1 _ _)
                            clear hc
                            go_wp2_with fail
                            go_meet
                            exact ⟨rfl, rfl⟩
                          · have hc2 : ((c0.toNat : Int) == 45) = false := (u8_int_eq (k := 45) 45 rfl).trans (decide_eq_false hc)
                            obtain rfl : mn = false := HMN.out.trans (hp_ne1 hc)
                            clear hc
                            go_wp2_with fail
                            go_meet
                            exact ⟨rfl, rfl⟩
                      case rest =>
                        obtain ⟨rfl, rfl⟩ := hcut
                        go_upto_if 104 with (fail)
                        go_cut [6, 13] from 105 to 106 (fun s6 s13 wx => s6 = .string ⟨a.toArray⟩ ∧ s13 = .int .i64 (sgi mn) ∧ wp = wx)
                        case first =>
                          cases mn
                          · have e0 := pre_trim HMN.out.symm
                            have e1 := HA.out.trans e0
                            clear e0
                            obtain rfl := e1
                            go_wp2_with fail
                            go_meet
                            exact ⟨rfl, rfl, rfl⟩
                          · obtain ⟨t0, e0, e1⟩ := pre_cons HMN.out.symm
                            have e2 := HA.out.trans e1
                            clear e1
                            obtain rfl := e2
                            obtain rfl := e0
                            have hsz : (ByteArray.mk (45 :: a).toArray).size = a.length + 1 := by simp [ByteArray.size]
                            have hext := ext1 45 a
                            go_wp2_with fail
                            go_meet
                            exact ⟨rfl, rfl, rfl⟩
                        case rest =>
                          obtain ⟨rfl, rfl, rfl⟩ := hcut
                          obtain ⟨D, hD⟩ : ∃ D, D = headD a := ⟨_, rfl⟩
                          obtain ⟨E, hE⟩ : ∃ E, E = tailD a := ⟨_, rfl⟩
                          have HD := Lib.hid hD
                          have HE := Lib.hid hE
                          have hlen2 := headD_len a
                          rw [← hD, ← hE] at hlen2
                          clear hD hE
                          go_wp2_with fail
                          refine (split_eq a D E HD.out HE.out (by omega) _).mono ?_
                          rintro e w4 ⟨rfl, hb⟩
                          replace Sn := kS Sn hb
                          replace Sd := kS Sd hb
                          replace Fo := kFf Fo Ko hb
                          replace Fn := kFw Fn Kn hb
                          replace Fd := kFw Fd Kd hb
                          replace Ko := kF Ko hb
                          replace Kn := kW Kn hb
                          replace Kd := kW Kd hb
                          replace B := kB B hb
                          have HBP := Lib.hid hb
                          clear hb
                          obtain ⟨qo0, qo1, qo2, qo3⟩ := Ko.out
                          obtain ⟨fo0, fo1, fo2, fo3⟩ := Fo.out
                          obtain ⟨qn0, qn1⟩ := Kn.out
                          obtain ⟨fn0, fn1⟩ := Fn.out
                          obtain ⟨qd0, qd1⟩ := Kd.out
                          obtain ⟨fd0, fd1⟩ := Fd.out
                          replace hzo := lF Ko
                          replace hzn := lW Kn
                          replace hzd := lW Kd
                          rcases D with _ | ⟨x0, xs⟩
                          · have E0 : parF l = (zF, 12) := parF_none (by rw [HP2.out, HS.out, if_neg (fun h => h.2.1 HD.out.symm)]; rfl)
                            have HE0 := Lib.hid E0
                            clear E0
                            go_wp2
                            rw [HE0.out]
                            exact bodyPost_ret (v := .tuple #[.agg #[.bool false, .slice none 0 0, .bool false, .slice none 0 0], .int .i64 12]) (by simp [results, Tryz.results11, go_sem, qo0, qo1, qo2, qo3]) rfl (fres_store4 (r := zF) 12 (Sl.nil _ none 0) (Sl.nil _ none 0) Ko.out B.out (by omega) _ _ _ _)
                          rw [List.length_cons] at hlen2
                          by_cases hx3 : xs.length + 1 ≤ 3
                          rotate_left
                          · have t3 : decide (3 < xs.length + 1) = true := decide_eq_true (by omega)
                            have t4 : decide ((3 : Int) < (xs.length : Int) + 1) = true := decide_eq_true (by omega)
                            have E0 : parF l = (zF, 12) := parF_none (by rw [HP2.out, HS.out, if_neg (fun h => by have := h.2.2; rw [← HD.out, List.length_cons] at this; omega)]; rfl)
                            have HE0 := Lib.hid E0
                            clear E0
                            go_wp2
                            rw [HE0.out]
                            exact bodyPost_ret (v := .tuple #[.agg #[.bool false, .slice none 0 0, .bool false, .slice none 0 0], .int .i64 12]) (by simp [results, Tryz.results11, go_sem, qo0, qo1, qo2, qo3]) rfl (fres_store4 (r := zF) 12 (Sl.nil _ none 0) (Sl.nil _ none 0) Ko.out B.out (by omega) _ _ _ _)
                          have t3 : decide (3 < xs.length + 1) = false := decide_eq_false (by omega)
                          have t4 : decide ((3 : Int) < (xs.length : Int) + 1) = false := decide_eq_false (by omega)
                          have HS2 : Hid (sciS (101 :: e) = if E = [] then some (sgn mn (dv (x0 :: xs))) else none) := by
                            rw [Hid, HS.out, ← HD.out, ← HE.out]
                            by_cases h : E = []
                            · rw [if_pos h, if_pos ⟨h, by simp, by rw [List.length_cons]; omega⟩]
                            · rw [if_neg h, if_neg (fun h2 => h h2.1)]
                          have Hdg : Hid (Dig (x0 :: xs)) := by rw [Hid, HD.out]; exact headD_dig _
                          have hd3 := dv_three Hdg.out (by rw [List.length_cons]; omega)
                          have hDl : (x0 :: xs).length ≤ 3 := by rw [List.length_cons]; omega
                          clear HS HD HE HA HMN HME
                          go_wp2
                          generalize hDD : x0 :: xs = DD at *
                          have HDD := Lib.hid hDD
                          clear hDD t3 t4
                          go_loop [12, 16] (fun s12 s16 => ∃ j : Nat, j ≤ DD.length ∧ s16 = .int .i64 j ∧ s12 = .int .i64 (dv (DD.take j) : Nat)) (fun _ v => DD.length - (intOf v).toNat)
                          case atStart => exact ⟨0, Nat.zero_le _, rfl, by simp [dv_nil]⟩
                          case round =>
                            obtain ⟨j, hj, rfl, rfl⟩ := hrel
                            have hdj := dv_three (dig_take Hdg.out j) (by rw [List.length_take]; omega)
                            by_cases hlt : j < DD.length
                            · have hgj : (ByteArray.mk DD.toArray)[j]'(by simp [ByteArray.size]; exact hlt) = DD[j]'hlt := rfl
                              have hcd := Hdg.out (DD[j]'hlt) (List.getElem_mem hlt)
                              have Hst : Hid (dv (DD.take (j + 1)) = 10 * dv (DD.take j) + ((DD[j]'hlt).toNat - 48)) := by rw [Hid, ← List.take_append_getElem hlt, dv_snoc]
                              generalize DD[j]'hlt = x at *
                              generalize hdd : dv (DD.take j) = dj at *
                              have Hdd := Lib.hid hdd
                              clear hdd
                              go_wp2
                              go_round
                              case rel => exact ⟨j + 1, by omega, by go_num, by rw [Hst.out]; congr 1; omega⟩
                              case measure => simp [intOf]; omega
                            · obtain rfl : j = DD.length := by omega
                              rw [List.take_length] at *
                              generalize hdd : dv DD = dj at *
                              have Hdd := Lib.hid hdd
                              clear hdd
                              cases mn with
                              | true =>
                                have hs1 : sgi true = -1 := rfl
                                go_wp2_with fail
                                go_meet
                                exact ⟨E, -(dj : Int), rfl, by go_num, HS2.out, by omega, by omega, HBP.out⟩
                              | false =>
                                have hs1 : sgi false = 1 := rfl
                                go_wp2_with fail
                                go_meet
                                exact ⟨E, (dj : Int), rfl, by go_num, HS2.out, by omega, by omega, HBP.out⟩
                  case rest =>
                    obtain ⟨u, k, rfl, rfl, hS, hk1, hk2, hb⟩ := hcut
                    have HS := Lib.hid hS
                    clear hS HME
                    replace Sn := kS Sn hb
                    replace Sd := kS Sd hb
                    replace Fo := kFf Fo Ko hb
                    replace Fn := kFw Fn Kn hb
                    replace Fd := kFw Fd Kd hb
                    replace Ko := kF Ko hb
                    replace Kn := kW Kn hb
                    replace Kd := kW Kd hb
                    replace B := kB B hb
                    clear hb
                    generalize wc = we at *
                    replace hzo := lF Ko
                    replace hzn := lW Kn
                    replace hzd := lW Kd
                    obtain ⟨qo0, qo1, qo2, qo3⟩ := Ko.out
                    obtain ⟨fo0, fo1, fo2, fo3⟩ := Fo.out
                    obtain ⟨qn0, qn1⟩ := Kn.out
                    obtain ⟨fn0, fn1⟩ := Fn.out
                    obtain ⟨qd0, qd1⟩ := Kd.out
                    obtain ⟨fd0, fd1⟩ := Fd.out
                    rcases u with _ | ⟨y0, ys⟩
                    rotate_left
                    · have E0 : parF l = (zF, 12) := parF_none (by rw [HP2.out, HS.out, if_neg (by simp)]; rfl)
                      have HE0 := Lib.hid E0
                      clear E0
                      go_wp2
                      rw [HE0.out]
                      exact bodyPost_ret (v := .tuple #[.agg #[.bool false, .slice none 0 0, .bool false, .slice none 0 0], .int .i64 12]) (by simp [results, Tryz.results11, go_sem, qo0, qo1, qo2, qo3]) rfl (fres_store4 (r := zF) 12 (Sl.nil _ none 0) (Sl.nil _ none 0) Ko.out B.out (by omega) _ _ _ _)
                    have HP3 : Hid (parQ l = some (powQ m (b :: tH) p k)) := by rw [Hid, HP2.out, HS.out, if_pos rfl]; rfl
                    clear HP2 HS
                    have hpl : p.length ≤ 200 := by omega
                    obtain ⟨X, hX⟩ : ∃ X, X = dv (b :: tH ++ p) := ⟨_, rfl⟩
                    obtain ⟨⟨nx, lx⟩, hx⟩ : ∃ p, p = wOf ((X : Nat) : Int) := ⟨_, rfl⟩
                    have HdX : Hid (Dig (b :: tH ++ p)) := dig_append Hdig.out HDP.out
                    have hXl : (b :: tH ++ p).length ≤ 200 := by rw [List.length_append, List.length_cons]; omega
                    have hX10 : X ≤ 10 ^ 200 := by rw [hX]; exact Nat.le_trans (dv_le10 HdX.out) (Nat.pow_le_pow_right (by omega) hXl)
                    have vx : Hid (VZ nx lx (X : Int)) := vz_mk hx (by rw [hX]; exact fit_dv HdX.out (by omega))
                    have hVal : Hid (∀ W, Calls Tryz.prog 59 #[.string ⟨(b :: tH ++ p).toArray⟩] W (WRes1 (nx, lx) W)) := fun W => rvalue_eq2 _ nx lx (by rw [hx, hX]) HdX.out (by simp) (by omega) W
                    have HX10 := Lib.hid hX10
                    rw [List.cons_append] at hVal
                    have HXe := Lib.hid hX
                    clear hX hx hX10 hXl HdX HDP
                    go_wp2_with fail
                    refine (hVal.out _).mono ?_
                    rintro e w4 ⟨A7, c7, rfl, hs7, hb⟩
                    clear qo0 qo1 qo2 qo3 fo0 fo1 fo2 fo3 qn0 qn1 fn0 fn1 qd0 qd1 fd0 fd1
                    replace Sn := kS Sn hb
                    replace Sd := kS Sd hb
                    replace Fo := kFf Fo Ko hb
                    replace Fn := kFw Fn Kn hb
                    replace Fd := kFw Fd Kd hb
                    replace Ko := kF Ko hb
                    replace Kn := kW Kn hb
                    replace Kd := kW Kd hb
                    replace B := kB B hb
                    clear hb
                    (try dsimp only at hs7)
                    (try dsimp only)
                    have Sx : Hid (Sl w4 A7 lx c7) := hs7
                    clear hs7
                    replace hzo := lF Ko
                    replace hzn := lW Kn
                    replace hzd := lW Kd
                    obtain ⟨qo0, qo1, qo2, qo3⟩ := Ko.out
                    obtain ⟨fo0, fo1, fo2, fo3⟩ := Fo.out
                    obtain ⟨qn0, qn1⟩ := Kn.out
                    obtain ⟨fn0, fn1⟩ := Fn.out
                    obtain ⟨qd0, qd1⟩ := Kd.out
                    obtain ⟨fd0, fd1⟩ := Fd.out
                    obtain ⟨K, hK⟩ : ∃ K : Int, K = k - p.length := ⟨_, rfl⟩
                    have HK := Lib.hid hK
                    have hK1 : -1199 ≤ K := by omega
                    have hK2 : K ≤ 999 := by omega
                    clear hK
                    go_upto_region 39 with fail
                    replace Sn : Hid (Sl ((w4.setCell ⟨w3.heap.size, 0, none⟩ (.bool nx)).setCell ⟨w3.heap.size, 1, none⟩ (.slice A7 lx.length c7)) A2 ln c2) := (Sn.out.setW Kn.out.1 Kn.out.2 _ _)
                    replace Sd : Hid (Sl ((w4.setCell ⟨w3.heap.size, 0, none⟩ (.bool nx)).setCell ⟨w3.heap.size, 1, none⟩ (.slice A7 lx.length c7)) A3 lo c3) := (Sd.out.setW Kn.out.1 Kn.out.2 _ _)
                    replace Sx : Hid (Sl ((w4.setCell ⟨w3.heap.size, 0, none⟩ (.bool nx)).setCell ⟨w3.heap.size, 1, none⟩ (.slice A7 lx.length c7)) A7 lx c7) := (Sx.out.setW Kn.out.1 Kn.out.2 _ _)
                    replace Fo : Hid (Ff ((w4.setCell ⟨w3.heap.size, 0, none⟩ (.bool nx)).setCell ⟨w3.heap.size, 1, none⟩ (.slice A7 lx.length c7)) w.heap.size) := (Ff.setW Fo.out _ _)
                    replace Fn : Hid (Fw ((w4.setCell ⟨w3.heap.size, 0, none⟩ (.bool nx)).setCell ⟨w3.heap.size, 1, none⟩ (.slice A7 lx.length c7)) w3.heap.size) := (Fw.setW Fn.out _ _)
                    replace Fd : Hid (Fw ((w4.setCell ⟨w3.heap.size, 0, none⟩ (.bool nx)).setCell ⟨w3.heap.size, 1, none⟩ (.slice A7 lx.length c7)) (w3.heap.size + 1)) := (Fw.setW Fd.out _ _)
                    replace Ko : Hid (Cf ((w4.setCell ⟨w3.heap.size, 0, none⟩ (.bool nx)).setCell ⟨w3.heap.size, 1, none⟩ (.slice A7 lx.length c7)) w.heap.size false none 0 0 false none 0 0) := (Cf.setW Ko.out (by omega) _ _)
                    replace Kn : Hid (Cw ((w4.setCell ⟨w3.heap.size, 0, none⟩ (.bool nx)).setCell ⟨w3.heap.size, 1, none⟩ (.slice A7 lx.length c7)) w3.heap.size nx A7 lx.length c7) := (Cw.new Kn.out)
                    replace Kd : Hid (Cw ((w4.setCell ⟨w3.heap.size, 0, none⟩ (.bool nx)).setCell ⟨w3.heap.size, 1, none⟩ (.slice A7 lx.length c7)) (w3.heap.size + 1) no A3 lo.length c3) := (Cw.setW Kd.out (by omega) _ _)
                    replace B : Hid (Below w.heap.size w ((w4.setCell ⟨w3.heap.size, 0, none⟩ (.bool nx)).setCell ⟨w3.heap.size, 1, none⟩ (.slice A7 lx.length c7))) := (below_setW B.out (by omega) _ _)
                    clear qo0 qo1 qo2 qo3 fo0 fo1 fo2 fo3 qn0 qn1 fn0 fn1 qd0 qd1 fd0 fd1
                    generalize (w4.setCell ⟨w3.heap.size, 0, none⟩ (.bool nx)).setCell ⟨w3.heap.size, 1, none⟩ (.slice A7 lx.length c7) = wk at *
                    clear Sn
                    have hzo := lF Ko
                    have hzn := lW Kn
                    have hzd := lW Kd
                    go_cut [12] from 145 to 148 (fun s12 wx => s12 = .int .i64 K ∧ wk = wx)
                    case first =>
                      go_wp2_with fail
                      go_meet
                      exact ⟨by rw [HK.out], rfl⟩
                    case rest =>
                      obtain ⟨rfl, rfl⟩ := hcut
                      by_cases hK0 : 0 ≤ K
                      · obtain ⟨j, rfl⟩ : ∃ j : Nat, K = (j : Int) := ⟨K.toNat, by omega⟩
                        have HP4 : Hid (parQ l = some (sgn m (X * 10 ^ j), 1)) := by
                          rw [Hid, HP3.out]
                          unfold powQ
                          rw [← HK.out, if_pos (by omega), ← HXe.out, Int.toNat_natCast]
                        obtain ⟨⟨nt, lt⟩, ht⟩ : ∃ p, p = p10 j := ⟨_, rfl⟩
                        obtain ⟨⟨nz, lz⟩, hz⟩ : ∃ p, p = wOf ((X * 10 ^ j : Nat) : Int) := ⟨_, rfl⟩
                        have fz : fitZ ((X * 10 ^ j : Nat) : Int) := fit_mul10 HX10.out (by omega)
                        have vz : Hid (VZ nz lz ((X * 10 ^ j : Nat) : Int)) := vz_mk hz fz
                        have hTen : Hid (∀ W, Calls Tryz.prog 60 #[.int .i64 (j : Int)] W (WRes1 (nt, lt) W)) := fun W => by rw [ht]; exact rten_any j (by omega) W
                        have em : mulS nx lx nt lt = ((nz, lz), 0) := by
                          have v1 : VZ nt lt ((10 : Int) ^ j) := vz_mk ht (fit_pow10 (by omega))
                          have e1 : (X : Int) * 10 ^ j = ((X * 10 ^ j : Nat) : Int) := by simp
                          rw [hz, ← e1]
                          exact mulS_z vx.out v1 (by rw [e1]; exact fz)
                        have hMul : Hid (∀ W A B c d, Sl W A lx c → Sl W B lt d → Calls Tryz.prog 24 #[.agg #[.bool nx, .slice A lx.length c], .agg #[.bool nt, .slice B lt.length d]] W (WRes ((nz, lz), 0) W)) := fun W A B c d h1 h2 => by rw [← em]; exact rmul_any nx nt A B lx lt c d W h1 h2
                        clear fz ht hz em HX10 HXe HP3 HK
                        go_upto_region 41 with fail
                        go_cut [17, 18] from 151 to 157 (fun s17 s18 wx => ∃ (gz : Nat) (A9 : Option Addr) (c9 : Nat), s17 = .pointer (some ⟨gz, 0, none⟩) ∧ s18 = .int .i64 0 ∧ wk.heap.size ≤ gz ∧ Cw wx gz nz A9 lz.length c9 ∧ Sl wx A9 lz c9 ∧ Below wk.heap.size wk wx)
                        case first =>
                          have K0 : Hid (Cw wk.drew w3.heap.size nx A7 lx.length c7) := Kn.out
                          have Lx_0 : Hid (Sl wk.drew A7 lx c7) := Sl.drew Sx.out
                          have Y0 : Hid (Below wk.heap.size wk wk.drew) := (Below.refl _ _).drew
                          have J0 : Hid (wk.drew.cell? ⟨w3.heap.size, 0, none⟩ = some (.bool nx) ∧ wk.drew.cell? ⟨w3.heap.size, 1, none⟩ = some (.slice A7 lx.length c7)) := ⟨K0.out.1, K0.out.2⟩
                          have J0a : Hid ((wk.alloc (.cells #[.bool false, .slice none 0 0] 24)).drew.cell? ⟨w3.heap.size, 0, none⟩ = some (.bool nx) ∧ (wk.alloc (.cells #[.bool false, .slice none 0 0] 24)).drew.cell? ⟨w3.heap.size, 1, none⟩ = some (.slice A7 lx.length c7)) := keep2 (blw1 wk.drew (.cells #[.bool false, .slice none 0 0] 24)) J0.out
                          go_region_held3 (fun w' => w'.cell? ⟨w3.heap.size, 0, none⟩ = some (.bool nx) ∧ w'.cell? ⟨w3.heap.size, 1, none⟩ = some (.slice A7 lx.length c7))
                            (first | with_reducible exact J2.out | with_reducible exact J1.out | with_reducible exact J0.out | with_reducible exact J0a.out | with_reducible exact keep2 (blw1 _ _) J2.out | with_reducible exact keep2 (blw1 _ _) J1.out | with_reducible exact keep2 (blw1 _ _) J0.out | ((with_reducible refine farW2 J2.out ?_ _ _); omega))
                            (first
                              | (go_at_call 60; first | ((with_reducible refine (hTen.out wk.drew).mono ?_); rintro e v1 ⟨A8, c8, rfl, hs8, hb⟩; (try dsimp only at hs8); (try dsimp only); have LT1_1 : Hid (Sl v1 A8 lt c8) := hs8; have Lx_1 : Hid (Sl v1 A7 lx c7) := Sl.below (Lx_0.out) hb; have K1 : Hid (Cw v1 w3.heap.size nx A7 lx.length c7) := Cw.keep K0.out hb; have Y1 : Hid (Below wk.heap.size wk v1) := below_mono Y0.out hb; have J1 : Hid (v1.cell? ⟨w3.heap.size, 0, none⟩ = some (.bool nx) ∧ v1.cell? ⟨w3.heap.size, 1, none⟩ = some (.slice A7 lx.length c7)) := ⟨K1.out.1, K1.out.2⟩; have hlt1 : w3.heap.size < v1.heap.size := lt_of_cell (a := ⟨w3.heap.size, 0, none⟩) K1.out.1; clear hb hs8) | ((with_reducible refine (hTen.out ((wk.alloc (.cells #[.bool false, .slice none 0 0] 24)).drew)).mono ?_); rintro e v1 ⟨A8, c8, rfl, hs8, hb⟩; (try dsimp only at hs8); (try dsimp only); have LT1_1 : Hid (Sl v1 A8 lt c8) := hs8; have Lx_1 : Hid (Sl v1 A7 lx c7) := Sl.below (Lx_0.out.alloc (.cells #[.bool false, .slice none 0 0] 24)) hb; have K1 : Hid (Cw v1 w3.heap.size nx A7 lx.length c7) := Cw.keep (Cw.keep K0.out (blw1 _ (.cells #[.bool false, .slice none 0 0] 24))) hb; have Y1 : Hid (Below wk.heap.size wk v1) := below_mono (below_mono Y0.out (blw1 _ (.cells #[.bool false, .slice none 0 0] 24))) hb; have M1 : Hid (Cw v1 wk.heap.size false none 0 0) := Cw.keep (Cw.fresh (w := wk.drew) (g := wk.heap.size) rfl false none 0 0 24) hb; have F1 : Hid (Fw v1 wk.heap.size) := Fw.keep (Fw.fresh (w := wk.drew) (g := wk.heap.size) rfl _ 24) (Cw.fresh (w := wk.drew) (g := wk.heap.size) rfl false none 0 0 24) hb; obtain ⟨m0_1, m1_1⟩ := M1.out; obtain ⟨f0_1, f1_1⟩ := F1.out; have hm : wk.heap.size < v1.heap.size := lt_of_cell (a := ⟨wk.heap.size, 0, none⟩) M1.out.1; have hmx : wk.heap.size ≤ wk.heap.size := Nat.le_refl _; have J1 : Hid (v1.cell? ⟨w3.heap.size, 0, none⟩ = some (.bool nx) ∧ v1.cell? ⟨w3.heap.size, 1, none⟩ = some (.slice A7 lx.length c7)) := ⟨K1.out.1, K1.out.2⟩; have hlt1 : w3.heap.size < v1.heap.size := lt_of_cell (a := ⟨w3.heap.size, 0, none⟩) K1.out.1; clear hb hs8))
                              | (go_at_call 24; first | ((with_reducible refine (hMul.out v1 _ _ _ _ (Lx_1.out) (LT1_1.out)).mono ?_); rintro e v2 ⟨A9, c9, rfl, hs9, hb⟩; (try dsimp only at hs9); (try dsimp only); have LZ1_2 : Hid (Sl v2 A9 lz c9) := hs9; have K2 : Hid (Cw v2 w3.heap.size nx A7 lx.length c7) := Cw.keep K1.out hb; have Y2 : Hid (Below wk.heap.size wk v2) := below_mono Y1.out hb; (try (have M2 := Lib.hid (M1.out.keep hb); have F2 := Lib.hid (Fw.keep F1.out M1.out hb); obtain ⟨m0_2, m1_2⟩ := M2.out; obtain ⟨f0_2, f1_2⟩ := F2.out)); have J2 : Hid (v2.cell? ⟨w3.heap.size, 0, none⟩ = some (.bool nx) ∧ v2.cell? ⟨w3.heap.size, 1, none⟩ = some (.slice A7 lx.length c7)) := ⟨K2.out.1, K2.out.2⟩; have hlt2 : w3.heap.size < v2.heap.size := lt_of_cell (a := ⟨w3.heap.size, 0, none⟩) K2.out.1; clear hb hs9) | ((with_reducible refine (hMul.out (v1.alloc (.cells #[.bool false, .slice none 0 0] 24)) _ _ _ _ (Lx_1.out.alloc (.cells #[.bool false, .slice none 0 0] 24)) (LT1_1.out.alloc (.cells #[.bool false, .slice none 0 0] 24))).mono ?_); rintro e v2 ⟨A9, c9, rfl, hs9, hb⟩; (try dsimp only at hs9); (try dsimp only); have LZ1_2 : Hid (Sl v2 A9 lz c9) := hs9; have K2 : Hid (Cw v2 w3.heap.size nx A7 lx.length c7) := Cw.keep (Cw.keep K1.out (blw1 _ (.cells #[.bool false, .slice none 0 0] 24))) hb; have Y2 : Hid (Below wk.heap.size wk v2) := below_mono (below_mono Y1.out (blw1 _ (.cells #[.bool false, .slice none 0 0] 24))) hb; have M2 : Hid (Cw v2 v1.heap.size false none 0 0) := Cw.keep (Cw.fresh (w := v1) (g := v1.heap.size) rfl false none 0 0 24) hb; have F2 : Hid (Fw v2 v1.heap.size) := Fw.keep (Fw.fresh (w := v1) (g := v1.heap.size) rfl _ 24) (Cw.fresh (w := v1) (g := v1.heap.size) rfl false none 0 0 24) hb; obtain ⟨m0_2, m1_2⟩ := M2.out; obtain ⟨f0_2, f1_2⟩ := F2.out; have hm : v1.heap.size < v2.heap.size := lt_of_cell (a := ⟨v1.heap.size, 0, none⟩) M2.out.1; have hmx : wk.heap.size ≤ v1.heap.size := Y1.out.size; have J2 : Hid (v2.cell? ⟨w3.heap.size, 0, none⟩ = some (.bool nx) ∧ v2.cell? ⟨w3.heap.size, 1, none⟩ = some (.slice A7 lx.length c7)) := ⟨K2.out.1, K2.out.2⟩; have hlt2 : w3.heap.size < v2.heap.size := lt_of_cell (a := ⟨w3.heap.size, 0, none⟩) K2.out.1; clear hb hs9)))
                          all_goals
                            go_wp2_with fail
                            go_meet
                            first
                              | with_reducible exact ⟨v2.heap.size, A9, c9, rfl, rfl, Y2.out.size, Cw.fresh rfl _ _ _ _ _, LZ1_2.out.alloc _, below_mono Y2.out (blw1 _ _)⟩
                              | with_reducible exact ⟨v1.heap.size, A9, c9, rfl, rfl, hmx, Cw.new M2.out, LZ1_2.out.setC M2.out _ _, below_setW Y2.out hmx _ _⟩
                              | with_reducible exact ⟨wk.heap.size, A9, c9, rfl, rfl, hmx, Cw.new M2.out, LZ1_2.out.setC M2.out _ _, below_setW Y2.out hmx _ _⟩
                        case rest =>
                          obtain ⟨gz, A9, c9, rfl, rfl, hge, hcm, hsmZ1, hb⟩ := hcut
                          replace Sd := kS Sd hb
                          replace Sx := kS Sx hb
                          replace Fo := kFf Fo Ko hb
                          replace Fn := kFw Fn Kn hb
                          replace Fd := kFw Fd Kd hb
                          replace Ko := kF Ko hb
                          replace Kn := kW Kn hb
                          replace Kd := kW Kd hb
                          replace B := kB B hb
                          clear hb
                          have Kz : Hid (Cw wc gz nz A9 lz.length c9) := hcm
                          have SZ1 : Hid (Sl wc A9 lz c9) := hsmZ1
                          clear hcm hsmZ1 hge
                          generalize wc = wv at *
                          replace hzo := lF Ko
                          replace hzn := lW Kn
                          replace hzd := lW Kd
                          have hzz := lW Kz
                          obtain ⟨qo0, qo1, qo2, qo3⟩ := Ko.out
                          obtain ⟨fo0, fo1, fo2, fo3⟩ := Fo.out
                          obtain ⟨qn0, qn1⟩ := Kn.out
                          obtain ⟨fn0, fn1⟩ := Fn.out
                          obtain ⟨qd0, qd1⟩ := Kd.out
                          obtain ⟨fd0, fd1⟩ := Fd.out
                          obtain ⟨qz0, qz1⟩ := Kz.out
                          go_wp2_with fail
                          go_meet
                          exact ⟨X * 10 ^ j, 1, _, _, _, _, _, _, _, _, HP4.out, vz.out, vo.out, (Cf.setW Ko.out (by omega) _ _), (Ff.setW Fo.out _ _), (Cw.new Kn.out), (Fw.setW Fn.out _ _), (Cw.setW Kd.out (by omega) _ _), (SZ1.out.setW Kn.out.1 Kn.out.2 _ _), (Sd.out.setW Kn.out.1 Kn.out.2 _ _), (below_setW B.out (by omega) _ _)⟩
                      · obtain ⟨j, rfl⟩ : ∃ j : Nat, K = -(j : Int) := ⟨(-K).toNat, by omega⟩
                        have HP4 : Hid (parQ l = some (sgn m X, 10 ^ j)) := by
                          rw [Hid, HP3.out]
                          unfold powQ
                          rw [← HK.out, if_neg (by omega), ← HXe.out, Int.neg_neg, Int.toNat_natCast]
                        obtain ⟨⟨n10, l10⟩, h10⟩ : ∃ p, p = wOf (10 : Int) := ⟨_, rfl⟩
                        have v10 : Hid (VZ n10 l10 10) := vz_mk h10 (fit_ten (k := 1) (by decide) (by omega))
                        have hT : Hid (∀ W, Calls Tryz.prog 30 #[.int .i64 10] W (WRes1 (n10, l10) W)) := fun W => by rw [h10]; exact rfrom_any 10 W (by omega) (by omega)
                        have hjl : j ≤ 1199 := by omega
                        have d1 : decide (0 ≤ -(j : Int)) = false := decide_eq_false hK0
                        clear h10 HX10 HXe HP3 HK
                        go_wp2_with fail
                        go_loopw [12] (fun s12 wr => ∃ i t : Nat, i + t = j ∧ s12 = .int .i64 (-(t : Int)) ∧ RDen w w3.heap.size (w3.heap.size + 1) nx lx A7 c7 i wr) (fun v _ => (-(intOf v)).toNat)
                        case atStart => exact ⟨0, j, by omega, rfl, no, lo, A3, c3, by rw [Int.pow_zero]; exact vo.out, Ko.out, Fo.out, Kn.out, Fn.out, Kd.out, Fd.out, Sx.out, Sd.out, B.out⟩
                        case round =>
                          obtain ⟨i, t, hit, rfl, nd, ld, B4, d4, hv, k1, k2, k3, k4, k5, k6, k7, k8, k9⟩ := hrel
                          have VD := Lib.hid hv
                          clear hv
                          clear Ko Fo Kn Fn Kd Fd Sx Sd B
                          have Ko : Hid (Cf wr w.heap.size false none 0 0 false none 0 0) := k1
                          have Fo : Hid (Ff wr w.heap.size) := k2
                          have Kn : Hid (Cw wr w3.heap.size nx A7 lx.length c7) := k3
                          have Fn : Hid (Fw wr w3.heap.size) := k4
                          have Kd : Hid (Cw wr (w3.heap.size + 1) nd B4 ld.length d4) := k5
                          have Fd : Hid (Fw wr (w3.heap.size + 1)) := k6
                          have Sx : Hid (Sl wr A7 lx c7) := k7
                          have Sd : Hid (Sl wr B4 ld d4) := k8
                          have B : Hid (Below w.heap.size w wr) := k9
                          clear k1 k2 k3 k4 k5 k6 k7 k8 k9
                          have hzo := lF Ko
                          have hzn := lW Kn
                          have hzd := lW Kd
                          by_cases hlt : 1000 < t
                          · obtain ⟨t, rfl⟩ : ∃ t', t = t' + 1 := ⟨t - 1, by omega⟩
                            have t1 : decide (-((t + 1 : Nat) : Int) < -1000) = true := decide_eq_true (by omega)
                            have t2 : decide ((1000 : Int) < ((t + 1 : Nat) : Int)) = true := decide_eq_true (by omega)
                            have t3 : decide (1000 < t + 1) = true := decide_eq_true hlt
                            have t4 : decide ((1000 : Int) < (t : Int) + 1) = true := decide_eq_true (by omega)
                            obtain ⟨⟨ny, ly⟩, hy⟩ : ∃ p, p = wOf ((10 : Int) ^ (i + 1)) := ⟨_, rfl⟩
                            have vy : Hid (VZ ny ly ((10 : Int) ^ (i + 1))) := vz_mk hy (fit_pow10 (by omega))
                            have em : mulS nd ld n10 l10 = ((ny, ly), 0) := by rw [hy, Int.pow_succ]; exact mulS_z VD.out v10.out (by rw [← Int.pow_succ]; exact fit_pow10 (by omega))
                            have hMul : Hid (∀ W A B c d, Sl W A ld c → Sl W B l10 d → Calls Tryz.prog 24 #[.agg #[.bool nd, .slice A ld.length c], .agg #[.bool n10, .slice B l10.length d]] W (WRes ((ny, ly), 0) W)) := fun W A B c d h1 h2 => by rw [← em]; exact rmul_any nd n10 A B ld l10 c d W h1 h2
                            clear em hy
                            go_upto_region 46 with fail
                            have KoY : Hid (Cf wr.drew w.heap.size false none 0 0 false none 0 0) := Ko.out
                            have FoY : Hid (Ff wr.drew w.heap.size) := Fo.out
                            have KnY : Hid (Cw wr.drew w3.heap.size nx A7 lx.length c7) := Kn.out
                            have FnY : Hid (Fw wr.drew w3.heap.size) := Fn.out
                            have KdY : Hid (Cw wr.drew (w3.heap.size + 1) nd B4 ld.length d4) := Kd.out
                            have FdY : Hid (Fw wr.drew (w3.heap.size + 1)) := Fd.out
                            have SxY : Hid (Sl wr.drew A7 lx c7) := Sl.drew Sx.out
                            have SdY : Hid (Sl wr.drew B4 ld d4) := Sl.drew Sd.out
                            have BY : Hid (Below w.heap.size w wr.drew) := Below.drew B.out
                            obtain ⟨oo0, oo1, oo2, oo3⟩ := Ko.out
                            obtain ⟨po0, po1, po2, po3⟩ := Fo.out
                            obtain ⟨on0, on1⟩ := Kn.out
                            obtain ⟨pn0, pn1⟩ := Fn.out
                            obtain ⟨od0, od1⟩ := Kd.out
                            obtain ⟨pd0, pd1⟩ := Fd.out
                            go_region_with (first
                              | (go_at_call 30; (with_reducible refine (hT.out _).mono ?_); rintro e x1 ⟨A5, c5, rfl, hs5, hb⟩; (try dsimp only at hs5); (try dsimp only); have Stx1 : Hid (Sl x1 A5 l10 c5) := hs5; have Fox1 := Lib.hid (Ff.keep FoY.out KoY.out hb); have Kox1 := Lib.hid (KoY.out.keep hb); have Fnx1 := Lib.hid (Fw.keep FnY.out KnY.out hb); have Knx1 := Lib.hid (KnY.out.keep hb); have Fdx1 := Lib.hid (Fw.keep FdY.out KdY.out hb); have Kdx1 := Lib.hid (KdY.out.keep hb); have Sxx1 := Lib.hid (SxY.out.below hb); have Sdx1 := Lib.hid (SdY.out.below hb); have Bx1 := Lib.hid (below_mono BY.out hb); obtain ⟨od0x1, od1x1⟩ := Kdx1.out; obtain ⟨pd0x1, pd1x1⟩ := Fdx1.out; clear hb hs5)
                              | (go_at_call 24; (with_reducible refine (hMul.out _ _ _ _ _ Sdx1.out Stx1.out).mono ?_); rintro e x2 ⟨A6, c6, rfl, hs6, hb⟩; (try dsimp only at hs6); (try dsimp only); have Syx2 : Hid (Sl x2 A6 ly c6) := hs6; have Fox2 := Lib.hid (Ff.keep Fox1.out Kox1.out hb); have Kox2 := Lib.hid (Kox1.out.keep hb); have Fnx2 := Lib.hid (Fw.keep Fnx1.out Knx1.out hb); have Knx2 := Lib.hid (Knx1.out.keep hb); have Fdx2 := Lib.hid (Fw.keep Fdx1.out Kdx1.out hb); have Kdx2 := Lib.hid (Kdx1.out.keep hb); have Sxx2 := Lib.hid (Sxx1.out.below hb); have Sdx2 := Lib.hid (Sdx1.out.below hb); have Stx2 := Lib.hid (Stx1.out.below hb); have Bx2 := Lib.hid (below_mono Bx1.out hb); obtain ⟨oo0x2, oo1x2, oo2x2, oo3x2⟩ := Kox2.out; obtain ⟨po0x2, po1x2, po2x2, po3x2⟩ := Fox2.out; obtain ⟨on0x2, on1x2⟩ := Knx2.out; obtain ⟨pn0x2, pn1x2⟩ := Fnx2.out; obtain ⟨od0x2, od1x2⟩ := Kdx2.out; obtain ⟨pd0x2, pd1x2⟩ := Fdx2.out; clear hb hs6))
                            all_goals
                              have Ko := Kox2; have Fo := Fox2
                              have Kn := Knx2; have Fn := Fnx2
                              have Kd := Kdx2; have Fd := Fdx2
                              have Sx := Sxx2
                              have Sd := Sdx2
                              have St := Stx2
                              have Sy := Syx2
                              have B := Bx2
                              go_wp2_with fail
                              go_roundw
                              case rel => exact ⟨i + 1, t, by omega, by go_num, ny, ly, A6, c6, vy.out, (Cf.setW Ko.out (by omega) _ _), (Ff.setW Fo.out _ _), (Cw.setW Kn.out (by omega) _ _), (Fw.setW Fn.out _ _), (Cw.new Kd.out), (Fw.setW Fd.out _ _), (Sx.out.setW Kd.out.1 Kd.out.2 _ _), (Sy.out.setW Kd.out.1 Kd.out.2 _ _), (below_setW B.out (by omega) _ _)⟩
                              case measure => simp [intOf]; omega
                          · have t1 : decide (-(t : Int) < -1000) = false := decide_eq_false (by omega)
                            have t2 : decide ((1000 : Int) < (t : Int)) = false := decide_eq_false (by omega)
                            have t3 : decide (1000 < t) = false := decide_eq_false hlt
                            obtain ⟨⟨nt, lt⟩, ht⟩ : ∃ p, p = p10 t := ⟨_, rfl⟩
                            obtain ⟨⟨ny, ly⟩, hy⟩ : ∃ p, p = wOf ((10 : Int) ^ j) := ⟨_, rfl⟩
                            have vy : Hid (VZ ny ly ((10 : Int) ^ j)) := vz_mk hy (fit_pow10 (by omega))
                            have hTen : Hid (∀ W, Calls Tryz.prog 60 #[.int .i64 (t : Int)] W (WRes1 (nt, lt) W)) := fun W => by rw [ht]; exact rten_any t (by omega) W
                            have em : mulS nd ld nt lt = ((ny, ly), 0) := by
                              have v1 : VZ nt lt ((10 : Int) ^ t) := vz_mk ht (fit_pow10 (by omega))
                              have e1 : (10 : Int) ^ i * 10 ^ t = 10 ^ j := by rw [← Int.pow_add, hit]
                              rw [hy, ← e1]
                              exact mulS_z VD.out v1 (by rw [e1]; exact fit_pow10 (by omega))
                            have hMul : Hid (∀ W A B c d, Sl W A ld c → Sl W B lt d → Calls Tryz.prog 24 #[.agg #[.bool nd, .slice A ld.length c], .agg #[.bool nt, .slice B lt.length d]] W (WRes ((ny, ly), 0) W)) := fun W A B c d h1 h2 => by rw [← em]; exact rmul_any nd nt A B ld lt c d W h1 h2
                            clear em hy ht
                            go_upto_region 48 with fail
                            go_cut [19, 20] from 172 to 179 (fun s19 s20 wx => ∃ (gz : Nat) (A9 : Option Addr) (c9 : Nat), s19 = .pointer (some ⟨gz, 0, none⟩) ∧ s20 = .int .i64 0 ∧ wr.heap.size ≤ gz ∧ Cw wx gz ny A9 ly.length c9 ∧ Sl wx A9 ly c9 ∧ Below wr.heap.size wr wx)
                            case first =>
                              have K0 : Hid (Cw wr.drew (w3.heap.size + 1) nd B4 ld.length d4) := Kd.out
                              have Ld_0 : Hid (Sl wr.drew B4 ld d4) := Sl.drew Sd.out
                              have Y0 : Hid (Below wr.heap.size wr wr.drew) := (Below.refl _ _).drew
                              have J0 : Hid (wr.drew.cell? ⟨w3.heap.size + 1, 0, none⟩ = some (.bool nd) ∧ wr.drew.cell? ⟨w3.heap.size + 1, 1, none⟩ = some (.slice B4 ld.length d4)) := ⟨K0.out.1, K0.out.2⟩
                              have J0a : Hid ((wr.alloc (.cells #[.bool false, .slice none 0 0] 24)).drew.cell? ⟨w3.heap.size + 1, 0, none⟩ = some (.bool nd) ∧ (wr.alloc (.cells #[.bool false, .slice none 0 0] 24)).drew.cell? ⟨w3.heap.size + 1, 1, none⟩ = some (.slice B4 ld.length d4)) := keep2 (blw1 wr.drew (.cells #[.bool false, .slice none 0 0] 24)) J0.out
                              have hwt : IntKind.i64.wrap (t : Int) = (t : Int) := IntWalk.i64_in _ (by omega)
                              go_region_held3 (fun w' => w'.cell? ⟨w3.heap.size + 1, 0, none⟩ = some (.bool nd) ∧ w'.cell? ⟨w3.heap.size + 1, 1, none⟩ = some (.slice B4 ld.length d4))
                                (first | with_reducible exact J2.out | with_reducible exact J1.out | with_reducible exact J0.out | with_reducible exact J0a.out | with_reducible exact keep2 (blw1 _ _) J2.out | with_reducible exact keep2 (blw1 _ _) J1.out | with_reducible exact keep2 (blw1 _ _) J0.out | ((with_reducible refine farW2 J2.out ?_ _ _); omega))
                                (first
                                  | (go_at_call 60; first | ((with_reducible refine (hTen.out wr.drew).mono ?_); rintro e v1 ⟨A8, c8, rfl, hs8, hb⟩; (try dsimp only at hs8); (try dsimp only); have LT1_1 : Hid (Sl v1 A8 lt c8) := hs8; have Ld_1 : Hid (Sl v1 B4 ld d4) := Sl.below (Ld_0.out) hb; have K1 : Hid (Cw v1 (w3.heap.size + 1) nd B4 ld.length d4) := Cw.keep K0.out hb; have Y1 : Hid (Below wr.heap.size wr v1) := below_mono Y0.out hb; have J1 : Hid (v1.cell? ⟨w3.heap.size + 1, 0, none⟩ = some (.bool nd) ∧ v1.cell? ⟨w3.heap.size + 1, 1, none⟩ = some (.slice B4 ld.length d4)) := ⟨K1.out.1, K1.out.2⟩; have hlt1 : w3.heap.size + 1 < v1.heap.size := lt_of_cell (a := ⟨w3.heap.size + 1, 0, none⟩) K1.out.1; clear hb hs8) | ((with_reducible refine (hTen.out ((wr.alloc (.cells #[.bool false, .slice none 0 0] 24)).drew)).mono ?_); rintro e v1 ⟨A8, c8, rfl, hs8, hb⟩; (try dsimp only at hs8); (try dsimp only); have LT1_1 : Hid (Sl v1 A8 lt c8) := hs8; have Ld_1 : Hid (Sl v1 B4 ld d4) := Sl.below (Ld_0.out.alloc (.cells #[.bool false, .slice none 0 0] 24)) hb; have K1 : Hid (Cw v1 (w3.heap.size + 1) nd B4 ld.length d4) := Cw.keep (Cw.keep K0.out (blw1 _ (.cells #[.bool false, .slice none 0 0] 24))) hb; have Y1 : Hid (Below wr.heap.size wr v1) := below_mono (below_mono Y0.out (blw1 _ (.cells #[.bool false, .slice none 0 0] 24))) hb; have M1 : Hid (Cw v1 wr.heap.size false none 0 0) := Cw.keep (Cw.fresh (w := wr.drew) (g := wr.heap.size) rfl false none 0 0 24) hb; have F1 : Hid (Fw v1 wr.heap.size) := Fw.keep (Fw.fresh (w := wr.drew) (g := wr.heap.size) rfl _ 24) (Cw.fresh (w := wr.drew) (g := wr.heap.size) rfl false none 0 0 24) hb; obtain ⟨m0_1, m1_1⟩ := M1.out; obtain ⟨f0_1, f1_1⟩ := F1.out; have hm : wr.heap.size < v1.heap.size := lt_of_cell (a := ⟨wr.heap.size, 0, none⟩) M1.out.1; have hmx : wr.heap.size ≤ wr.heap.size := Nat.le_refl _; have J1 : Hid (v1.cell? ⟨w3.heap.size + 1, 0, none⟩ = some (.bool nd) ∧ v1.cell? ⟨w3.heap.size + 1, 1, none⟩ = some (.slice B4 ld.length d4)) := ⟨K1.out.1, K1.out.2⟩; have hlt1 : w3.heap.size + 1 < v1.heap.size := lt_of_cell (a := ⟨w3.heap.size + 1, 0, none⟩) K1.out.1; clear hb hs8))
                                  | (go_at_call 24; first | ((with_reducible refine (hMul.out v1 _ _ _ _ (Ld_1.out) (LT1_1.out)).mono ?_); rintro e v2 ⟨A9, c9, rfl, hs9, hb⟩; (try dsimp only at hs9); (try dsimp only); have LZ1_2 : Hid (Sl v2 A9 ly c9) := hs9; have K2 : Hid (Cw v2 (w3.heap.size + 1) nd B4 ld.length d4) := Cw.keep K1.out hb; have Y2 : Hid (Below wr.heap.size wr v2) := below_mono Y1.out hb; (try (have M2 := Lib.hid (M1.out.keep hb); have F2 := Lib.hid (Fw.keep F1.out M1.out hb); obtain ⟨m0_2, m1_2⟩ := M2.out; obtain ⟨f0_2, f1_2⟩ := F2.out)); have J2 : Hid (v2.cell? ⟨w3.heap.size + 1, 0, none⟩ = some (.bool nd) ∧ v2.cell? ⟨w3.heap.size + 1, 1, none⟩ = some (.slice B4 ld.length d4)) := ⟨K2.out.1, K2.out.2⟩; have hlt2 : w3.heap.size + 1 < v2.heap.size := lt_of_cell (a := ⟨w3.heap.size + 1, 0, none⟩) K2.out.1; clear hb hs9) | ((with_reducible refine (hMul.out (v1.alloc (.cells #[.bool false, .slice none 0 0] 24)) _ _ _ _ (Ld_1.out.alloc (.cells #[.bool false, .slice none 0 0] 24)) (LT1_1.out.alloc (.cells #[.bool false, .slice none 0 0] 24))).mono ?_); rintro e v2 ⟨A9, c9, rfl, hs9, hb⟩; (try dsimp only at hs9); (try dsimp only); have LZ1_2 : Hid (Sl v2 A9 ly c9) := hs9; have K2 : Hid (Cw v2 (w3.heap.size + 1) nd B4 ld.length d4) := Cw.keep (Cw.keep K1.out (blw1 _ (.cells #[.bool false, .slice none 0 0] 24))) hb; have Y2 : Hid (Below wr.heap.size wr v2) := below_mono (below_mono Y1.out (blw1 _ (.cells #[.bool false, .slice none 0 0] 24))) hb; have M2 : Hid (Cw v2 v1.heap.size false none 0 0) := Cw.keep (Cw.fresh (w := v1) (g := v1.heap.size) rfl false none 0 0 24) hb; have F2 : Hid (Fw v2 v1.heap.size) := Fw.keep (Fw.fresh (w := v1) (g := v1.heap.size) rfl _ 24) (Cw.fresh (w := v1) (g := v1.heap.size) rfl false none 0 0 24) hb; obtain ⟨m0_2, m1_2⟩ := M2.out; obtain ⟨f0_2, f1_2⟩ := F2.out; have hm : v1.heap.size < v2.heap.size := lt_of_cell (a := ⟨v1.heap.size, 0, none⟩) M2.out.1; have hmx : wr.heap.size ≤ v1.heap.size := Y1.out.size; have J2 : Hid (v2.cell? ⟨w3.heap.size + 1, 0, none⟩ = some (.bool nd) ∧ v2.cell? ⟨w3.heap.size + 1, 1, none⟩ = some (.slice B4 ld.length d4)) := ⟨K2.out.1, K2.out.2⟩; have hlt2 : w3.heap.size + 1 < v2.heap.size := lt_of_cell (a := ⟨w3.heap.size + 1, 0, none⟩) K2.out.1; clear hb hs9)))
                              all_goals
                                go_wp2_with fail
                                go_meet
                                first
                                  | with_reducible exact ⟨v2.heap.size, A9, c9, rfl, rfl, Y2.out.size, Cw.fresh rfl _ _ _ _ _, LZ1_2.out.alloc _, below_mono Y2.out (blw1 _ _)⟩
                                  | with_reducible exact ⟨v1.heap.size, A9, c9, rfl, rfl, hmx, Cw.new M2.out, LZ1_2.out.setC M2.out _ _, below_setW Y2.out hmx _ _⟩
                                  | with_reducible exact ⟨wr.heap.size, A9, c9, rfl, rfl, hmx, Cw.new M2.out, LZ1_2.out.setC M2.out _ _, below_setW Y2.out hmx _ _⟩
                            case rest =>
                              obtain ⟨gz, A9, c9, rfl, rfl, hge, hcm, hsmZ1, hb⟩ := hcut
                              replace Sx := kS Sx hb
                              replace Sd := kS Sd hb
                              replace Fo := kFf Fo Ko hb
                              replace Fn := kFw Fn Kn hb
                              replace Fd := kFw Fd Kd hb
                              replace Ko := kF Ko hb
                              replace Kn := kW Kn hb
                              replace Kd := kW Kd hb
                              replace B := kB B hb
                              clear hb
                              have Kz : Hid (Cw wc gz ny A9 ly.length c9) := hcm
                              have SZ1 : Hid (Sl wc A9 ly c9) := hsmZ1
                              clear hcm hsmZ1 hge
                              generalize wc = wv at *
                              replace hzo := lF Ko
                              replace hzn := lW Kn
                              replace hzd := lW Kd
                              have hzz := lW Kz
                              obtain ⟨qo0, qo1, qo2, qo3⟩ := Ko.out
                              obtain ⟨fo0, fo1, fo2, fo3⟩ := Fo.out
                              obtain ⟨qn0, qn1⟩ := Kn.out
                              obtain ⟨fn0, fn1⟩ := Fn.out
                              obtain ⟨qd0, qd1⟩ := Kd.out
                              obtain ⟨fd0, fd1⟩ := Fd.out
                              obtain ⟨qz0, qz1⟩ := Kz.out
                              go_wp2_with fail
                              go_meet
                              exact ⟨X, _, _, _, _, _, _, _, _, _, HP4.out, vx.out, vy.out, (Cf.setW Ko.out (by omega) _ _), (Ff.setW Fo.out _ _), (Cw.setW Kn.out (by omega) _ _), (Fw.setW Fn.out _ _), (Cw.new Kd.out), (Sx.out.setW Kd.out.1 Kd.out.2 _ _), (SZ1.out.setW Kd.out.1 Kd.out.2 _ _), (below_setW B.out (by omega) _ _)⟩
        case rest =>
          obtain ⟨X, Y, nx, lx, A7, c7, ny, ly, A8, c8, hP, vx, vy, k1, k2, k3, k4, k5, k6, k7, k8⟩ := hcut
          have HPQ := Lib.hid hP
          have VX := Lib.hid vx
          have VY := Lib.hid vy
          clear hP vx vy HRest Hdig vn vo hOne Hn HM47 Ko Fo Kn Fn Kd Fd Sn Sd B
          generalize wc = we at *
          have Ko : Hid (Cf we w.heap.size false none 0 0 false none 0 0) := k1
          have Fo : Hid (Ff we w.heap.size) := k2
          have Kn : Hid (Cw we w3.heap.size nx A7 lx.length c7) := k3
          have Fn : Hid (Fw we w3.heap.size) := k4
          have Kd : Hid (Cw we (w3.heap.size + 1) ny A8 ly.length c8) := k5
          have Sn : Hid (Sl we A7 lx c7) := k6
          have Sd : Hid (Sl we A8 ly c8) := k7
          have B : Hid (Below w.heap.size w we) := k8
          clear k1 k2 k3 k4 k5 k6 k7 k8
          have hzo := lF Ko
          have hzn := lW Kn
          have hzd := lW Kd
          obtain ⟨qo0, qo1, qo2, qo3⟩ := Ko.out
          obtain ⟨fo0, fo1, fo2, fo3⟩ := Fo.out
          obtain ⟨qn0, qn1⟩ := Kn.out
          obtain ⟨fn0, fn1⟩ := Fn.out
          obtain ⟨qd0, qd1⟩ := Kd.out
          have hyl := VY.out.zero
          by_cases hY : Y = 0
          · have hz : ((ly.length : Int) == 0) = true := by rw [beq_iff_eq]; have := hyl.2 hY; omega
            have E0 : parF l = (zF, 18) := by rw [parF_some HPQ.out, hY]; rfl
            have HE0 := Lib.hid E0
            clear E0 hyl hY
            go_wp2
            rw [HE0.out]
            exact bodyPost_ret (v := .tuple #[.agg #[.bool false, .slice none 0 0, .bool false, .slice none 0 0], .int .i64 18]) (by simp [results, Tryz.results11, go_sem, qo0, qo1, qo2, qo3]) rfl (fres_store4 (r := zF) 18 (Sl.nil _ none 0) (Sl.nil _ none 0) Ko.out B.out (by omega) _ _ _ _)
          have hz : ((ly.length : Int) == 0) = false := by rw [beq_eq_false_iff_ne]; intro h; exact hY (hyl.1 (by omega))
          have HY := Lib.hid hY
          clear hyl hY
          obtain ⟨⟨⟨na, la⟩, ⟨nb, lb⟩⟩, hred⟩ : ∃ p, p = redZ (sgn m X) Y := ⟨_, rfl⟩
          have HEnd : Hid (parF l = (((na, la), (nb, lb)), 0)) := by rw [Hid, parF_some HPQ.out]; unfold ofS; rw [if_neg HY.out, hred]
          have HR := Lib.hid hred
          clear hred HPQ
          cases m with
          | false =>
            have hRed : Hid (∀ W A B c d, Sl W A lx c → Sl W B ly d → Calls Tryz.prog 31 #[.agg #[.bool nx, .slice A lx.length c], .agg #[.bool ny, .slice B ly.length d]] W (FRes1 ((na, la), (nb, lb)) W)) := fun W A B c d h1 h2 => by rw [HR.out]; exact rreduced_any nx ny A B lx ly c d _ _ VX.out VY.out HY.out W h1 h2
            clear HR
            go_wp2_with fail
            refine (hRed.out _ _ _ _ _ Sn.out Sd.out).mono ?_
            rintro e w21 ⟨A9, c9, B9, d9, rfl, hs9, ht9, hb⟩
            clear qo0 qo1 qo2 qo3 fo0 fo1 fo2 fo3 qn0 qn1 fn0 fn1 qd0 qd1
            replace Sn := kS Sn hb
            replace Sd := kS Sd hb
            replace Fo := kFf Fo Ko hb
            replace Fn := kFw Fn Kn hb
            replace Ko := kF Ko hb
            replace Kn := kW Kn hb
            replace Kd := kW Kd hb
            replace B := kB B hb
            clear hb
            (try dsimp only at hs9 ht9)
            (try dsimp only)
            have Sp1 : Hid (Sl w21 A9 la c9) := hs9
            clear hs9
            have Sp2 : Hid (Sl w21 B9 lb d9) := ht9
            clear ht9
            replace hzo := lF Ko
            replace hzn := lW Kn
            replace hzd := lW Kd
            obtain ⟨qo0, qo1, qo2, qo3⟩ := Ko.out
            obtain ⟨fo0, fo1, fo2, fo3⟩ := Fo.out
            go_wp2
            rw [HEnd.out]
            exact bodyPost_ret (v := .tuple #[.agg #[.bool na, .slice A9 la.length c9, .bool nb, .slice B9 lb.length d9], .int .i64 0]) (by simp [results, Tryz.results11, go_sem, qo0, qo1, qo2, qo3]) rfl (fres_store4 (r := ((na, la), (nb, lb))) 0 Sp1.out Sp2.out Ko.out B.out (by omega) _ _ _ _)
          | true =>
            obtain ⟨⟨nm, lm⟩, hm2⟩ : ∃ p, p = wOf (-(X : Int)) := ⟨_, rfl⟩
            have VM : Hid (VZ nm lm (-(X : Int))) := vz_mk hm2 (by have := VX.out.2; unfold fitZ at *; rwa [Int.natAbs_neg])
            have en : Hid (negS nx lx = ((nm, lm), 0)) := by rw [hm2]; exact negS_z VX.out
            have hRed : Hid (∀ W A B c d, Sl W A lm c → Sl W B ly d → Calls Tryz.prog 31 #[.agg #[.bool nm, .slice A lm.length c], .agg #[.bool ny, .slice B ly.length d]] W (FRes1 ((na, la), (nb, lb)) W)) := fun W A B c d h1 h2 => by rw [HR.out]; exact rreduced_any nm ny A B lm ly c d _ _ VM.out VY.out HY.out W h1 h2
            clear HR hm2
            go_wp2_with fail
            refine (rneg_any nx A7 lx c7 _ Sn.out).mono ?_
            rw [en.out]
            rintro e w21 ⟨A6, c6, rfl, hs6, hb⟩
            clear qo0 qo1 qo2 qo3 fo0 fo1 fo2 fo3 qn0 qn1 fn0 fn1 qd0 qd1
            replace Sn := kS Sn hb
            replace Sd := kS Sd hb
            replace Fo := kFf Fo Ko hb
            replace Fn := kFw Fn Kn hb
            replace Ko := kF Ko hb
            replace Kn := kW Kn hb
            replace Kd := kW Kd hb
            replace B := kB B hb
            clear hb
            (try dsimp only at hs6)
            (try dsimp only)
            have Sm : Hid (Sl w21 A6 lm c6) := hs6
            clear hs6
            replace hzo := lF Ko
            replace hzn := lW Kn
            replace hzd := lW Kd
            obtain ⟨qo0, qo1, qo2, qo3⟩ := Ko.out
            obtain ⟨fo0, fo1, fo2, fo3⟩ := Fo.out
            obtain ⟨qn0, qn1⟩ := Kn.out
            obtain ⟨fn0, fn1⟩ := Fn.out
            obtain ⟨qd0, qd1⟩ := Kd.out
            go_wp2_with fail
            refine (hRed.out _ _ _ _ _ (Sm.out.setW Kn.out.1 Kn.out.2 _ _) (Sd.out.setW Kn.out.1 Kn.out.2 _ _)).mono ?_
            rintro e w22 ⟨A9, c9, B9, d9, rfl, hs9, ht9, hb⟩
            clear qo0 qo1 qo2 qo3 fo0 fo1 fo2 fo3 qn0 qn1 fn0 fn1 qd0 qd1
            replace Sn : Hid (Sl w22 A7 lx c7) := Sl.below (Sn.out.setW Kn.out.1 Kn.out.2 _ _) hb
            replace Sd : Hid (Sl w22 A8 ly c8) := Sl.below (Sd.out.setW Kn.out.1 Kn.out.2 _ _) hb
            replace Sm : Hid (Sl w22 A6 lm c6) := Sl.below (Sm.out.setW Kn.out.1 Kn.out.2 _ _) hb
            replace Fo : Hid (Ff w22 w.heap.size) := Ff.keep (Ff.setW Fo.out _ _) (Cf.setW Ko.out (by omega) _ _) hb
            replace Fn : Hid (Fw w22 w3.heap.size) := Fw.keep (Fw.setW Fn.out _ _) (Cw.new Kn.out) hb
            replace Ko : Hid (Cf w22 w.heap.size false none 0 0 false none 0 0) := Cf.keep (Cf.setW Ko.out (by omega) _ _) hb
            replace Kn : Hid (Cw w22 w3.heap.size nm A6 lm.length c6) := Cw.keep (Cw.new Kn.out) hb
            replace Kd : Hid (Cw w22 (w3.heap.size + 1) ny A8 ly.length c8) := Cw.keep (Cw.setW Kd.out (by omega) _ _) hb
            replace B : Hid (Below w.heap.size w w22) := below_mono (below_setW B.out (by omega) _ _) hb
            clear hb
            (try dsimp only at hs9 ht9)
            (try dsimp only)
            have Sp1 : Hid (Sl w22 A9 la c9) := hs9
            clear hs9
            have Sp2 : Hid (Sl w22 B9 lb d9) := ht9
            clear ht9
            replace hzo := lF Ko
            replace hzn := lW Kn
            replace hzd := lW Kd
            obtain ⟨qo0, qo1, qo2, qo3⟩ := Ko.out
            obtain ⟨fo0, fo1, fo2, fo3⟩ := Fo.out
            go_wp2
            rw [HEnd.out]
            exact bodyPost_ret (v := .tuple #[.agg #[.bool na, .slice A9 la.length c9, .bool nb, .slice B9 lb.length d9], .int .i64 0]) (by simp [results, Tryz.results11, go_sem, qo0, qo1, qo2, qo3]) rfl (fres_store4 (r := ((na, la), (nb, lb))) 0 Sp1.out Sp2.out Ko.out B.out (by omega) _ _ _ _)

/-- The reference's Parse, at every string of at most 3000 bytes. -/
theorem rfparse_any (l : List UInt8) (hl : l.length ≤ 3000) (w : World) :
    Calls Tryz.prog 11 #[.string ⟨l.toArray⟩] w (FRes (parF l) w) := by
  by_cases h : l.length ≤ 200
  · exact rfparse_short l h w
  · exact rfparse_long l hl (by omega) w

end Go.Proofs.YtmelbahbjdogdaaGreatDoor

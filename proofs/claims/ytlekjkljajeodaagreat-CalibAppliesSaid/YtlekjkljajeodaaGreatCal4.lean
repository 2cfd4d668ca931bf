/- Walks: the reference of calib. -/
import Derived.Test.YtlekjkljajeodaaGreatCal3
import Derived.Test.YtlekjkljajeodaaGreatCMath
import Derived.Test.YtlekjkljajeodaaGreatF10
import Derived.Test.YtlekjkljajeodaaGreatF13
import Derived.Test.YtlekjkljajeodaaGreatF17
import Derived.Test.YtlekjkljajeodaaGreatFMathC
import Derived.Deep.CutRange
import Derived.Deep.RegionHeld3
import Derived.IntWalk
namespace Go.Proofs.YtlekjkljajeodaaGreat
open Go.RowKit
attribute [local go_sem ↓] Go.wp_at_zero Go.wp_at_succ
set_option maxRecDepth 100000 in
set_option maxHeartbeats 2000000 in
theorem rwhole_any (n : Int) (h1 : -9223372036854775808 ≤ n) (h2 : n ≤ 9223372036854775807) (w : World) :
    Calls Tryz.prog 113 #[.int .i64 n] w (FRes1 (wOf n, wOf 1) w) := by
  obtain ⟨⟨nx, lx⟩, hx⟩ : ∃ p, p = wOf n := ⟨_, rfl⟩
  obtain ⟨⟨ny, ly⟩, hy⟩ : ∃ p, p = wOf 1 := ⟨_, rfl⟩
  have F1 : Hid (∀ W, Calls Tryz.prog 79 #[.int .i64 n] W (WRes1 (nx, lx) W)) := fun W => by rw [hx]; exact rfrom_any n W h1 h2
  have F2 : Hid (∀ W, Calls Tryz.prog 79 #[.int .i64 1] W (WRes1 (ny, ly) W)) := fun W => by rw [hy]; exact rfrom_any 1 W (by omega) (by omega)
  rw [← hx, ← hy]
  have B : Hid (Below w.heap.size w w) := Below.refl _ _
  clear hx hy
  go_enter Tryz.func113, Tryz.ntmps113
  go_wp2_with fail
  refine (F1.out _).mono ?_
  rintro e w1 ⟨A1, c1, rfl, hs1, hb⟩
  have Fo : Hid (Ff w1 w.heap.size) := Ff.keep (Ff.fresh (by simp) _ _) (Cf.fresh (by simp) _ _ _ _ _ _ _ _ _) hb
  have Ko : Hid (Cf w1 w.heap.size false none 0 0 false none 0 0) := Cf.keep (Cf.fresh (by simp) _ _ _ _ _ _ _ _ _) hb
  replace B := kB1 B hb
  clear hb
  (try dsimp only at hs1)
  (try dsimp only)
  have Sx : Hid (Sl w1 A1 lx c1) := hs1
  clear hs1
  have hzo := lF Ko
  go_wp2_with fail
  refine (F2.out _).mono ?_
  rintro e w2 ⟨A2, c2, rfl, hs2, hb⟩
  replace Sx := kS Sx hb
  replace Fo := kFf Fo Ko hb
  replace Ko := kF Ko hb
  replace B := kB B hb
  clear hb
  (try dsimp only at hs2)
  (try dsimp only)
  have Sy : Hid (Sl w2 A2 ly c2) := hs2
  clear hs2
  replace hzo := lF Ko
  obtain ⟨qo0, qo1, qo2, qo3⟩ := Ko.out
  obtain ⟨fo0, fo1, fo2, fo3⟩ := Fo.out
  go_wp2
  exact bodyPost_ret (v := .agg #[.bool nx, .slice A1 lx.length c1, .bool ny, .slice A2 ly.length c2]) (by simp [results, Tryz.results113, go_sem, qo0, qo1, qo2, qo3]) rfl (fres1_store (r := ((nx, lx), (ny, ly))) Sx.out Sy.out Ko.out B.out (by omega) _ _ _ _)

set_option maxRecDepth 100000 in
set_option maxHeartbeats 2000000 in
theorem rccheck_any (W H : Int) (A : Option Addr) (l : List Int) (c B : Nat) (w : World) (hs : SlI w B A l c) :
    Calls Tryz.prog 39 #[.agg #[.int .i64 W, .int .i64 H, .slice A l.length c]] w fun e w' => e = .returned (.int .i64 (fchk W H l)) ∧ Below w.heap.size w w' := by
  have hm := hs.len
  have S := Lib.hid hs
  clear hs
  by_cases h0 : W < 1
  · have t0 : decide (W < 1) = true := decide_eq_true h0
    have hr := fchk_bad (W := W) (H := H) (l := l) (by omega)
    have HR := Lib.hid hr
    clear hr h0
    go_enter Tryz.func39, Tryz.ntmps39
    go_wp2
    go_ret
    exact ⟨ret_i64 HR.out.symm, blw1 _ _⟩
  have t0 : decide (W < 1) = false := decide_eq_false h0
  by_cases h1 : 100 < W
  · have t1 : decide (100 < W) = true := decide_eq_true h1
    have hr := fchk_bad (W := W) (H := H) (l := l) (by omega)
    have HR := Lib.hid hr
    clear hr h0 h1
    go_enter Tryz.func39, Tryz.ntmps39
    go_wp2
    go_ret
    exact ⟨ret_i64 HR.out.symm, blw1 _ _⟩
  have t1 : decide (100 < W) = false := decide_eq_false h1
  by_cases h2 : H < 1
  · have t2 : decide (H < 1) = true := decide_eq_true h2
    have hr := fchk_bad (W := W) (H := H) (l := l) (by omega)
    have HR := Lib.hid hr
    clear hr h0 h1 h2
    go_enter Tryz.func39, Tryz.ntmps39
    go_wp2
    go_ret
    exact ⟨ret_i64 HR.out.symm, blw1 _ _⟩
  have t2 : decide (H < 1) = false := decide_eq_false h2
  by_cases h3 : 100 < H
  · have t3 : decide (100 < H) = true := decide_eq_true h3
    have hr := fchk_bad (W := W) (H := H) (l := l) (by omega)
    have HR := Lib.hid hr
    clear hr h0 h1 h2 h3
    go_enter Tryz.func39, Tryz.ntmps39
    go_wp2
    go_ret
    exact ⟨ret_i64 HR.out.symm, blw1 _ _⟩
  have t3 : decide (100 < H) = false := decide_eq_false h3
  obtain ⟨p1, p2⟩ := side_mul (W := W) (H := H) (by omega) (by omega) (by omega) (by omega)
  by_cases hl : (l.length : Int) = W * H
  rotate_left
  · have t4 : ((l.length : Int) != W * H) = true := by simp [hl]
    have hr := fchk_bad (W := W) (H := H) (l := l) (by omega)
    have HR := Lib.hid hr
    clear hr h0 h1 h2 h3 hl
    go_enter Tryz.func39, Tryz.ntmps39
    go_wp2
    go_ret
    exact ⟨ret_i64 HR.out.symm, blw1 _ _⟩
  have t4 : ((l.length : Int) != W * H) = false := by simp [hl]
  have HW : Hid ((1 ≤ W ∧ W ≤ 100) ∧ (1 ≤ H ∧ H ≤ 100) ∧ (l.length : Int) = W * H) := ⟨by omega, by omega, hl⟩
  clear h0 h1 h2 h3 hl
  go_enter Tryz.func39, Tryz.ntmps39
  go_wp2
  generalize hwz : w.alloc (.cells #[.int .i64 W, .int .i64 H, .slice A l.length c] 24) = wz at *
  have KB : Hid (BlkV wz w.heap.size 24 #[.int .i64 W, .int .i64 H, .slice A l.length c]) := by rw [← hwz]; exact BlkV.fresh rfl _ _
  have HB : Hid (Below w.heap.size w wz) := by rw [← hwz]; exact blw1 _ _
  have S2 : Hid (SlI wz B A l c) := by rw [← hwz]; exact S.out.alloc _
  clear hwz
  go_loop [3] (fun s3 => ∃ k : Nat, k ≤ l.length ∧ s3 = .int .i64 k ∧ ∀ x ∈ l.take k, -4294967296 ≤ x ∧ x ≤ 4294967296) (fun v => l.length - (intOf v).toNat)
  case atStart => exact ⟨0, Nat.zero_le _, rfl, by simp⟩
  case round =>
    obtain ⟨k, hk, rfl, hall⟩ := hrel
    have ALL := Lib.hid hall
    clear hall
    have k2 : wz.cell? ⟨w.heap.size, 2, none⟩ = some (.slice A l.length c) := KB.out.at_ 2 rfl
    by_cases hlt : k < l.length
    · obtain ⟨b, o, rfl, -, hck⟩ := S2.out.at_ (k := k) hlt
      have hst : Hid (l.take (k + 1) = l.take k ++ [l[k]'hlt]) := take_snoc_i l hlt
      have hin : Hid (l[k]'hlt ∈ l) := List.getElem_mem hlt
      have bk := S2.out.lim.at_ hlt
      generalize l[k]'hlt = x at *
      by_cases hx1 : x < -4294967296
      · have t5 : decide (x < -4294967296) = true := decide_eq_true hx1
        have hr := fchk_bad (W := W) (H := H) (l := l) (fun h => by have := h.2.2.2 x hin.out; omega)
        have HR := Lib.hid hr
        clear hr hx1
        go_wp2
        go_ret
        exact ⟨ret_i64 HR.out.symm, HB.out⟩
      · have t5 : decide (x < -4294967296) = false := decide_eq_false hx1
        by_cases hx2 : 4294967296 < x
        · have t6 : decide (4294967296 < x) = true := decide_eq_true hx2
          have hr := fchk_bad (W := W) (H := H) (l := l) (fun h => by have := h.2.2.2 x hin.out; omega)
          have HR := Lib.hid hr
          clear hr hx1 hx2
          go_wp2
          go_ret
          exact ⟨ret_i64 HR.out.symm, HB.out⟩
        · have t6 : decide (4294967296 < x) = false := decide_eq_false hx2
          go_wp2
          go_round
          case rel => exact ⟨k + 1, by omega, by go_num, fun y hy => by
            rw [hst.out, List.mem_append] at hy
            rcases hy with hy | hy
            · exact ALL.out y hy
            · rw [List.mem_singleton] at hy; subst hy; omega⟩
          case measure => simp [intOf]; omega
    · obtain rfl : k = l.length := by omega
      have hr := fchk_good (W := W) (H := H) (l := l) ⟨HW.out.1, HW.out.2.1, HW.out.2.2, by have := ALL.out; rwa [List.take_length] at this⟩
      have HR := Lib.hid hr
      clear hr
      go_wp2
      go_ret
      exact ⟨ret_i64 HR.out.symm, HB.out⟩

def aliB (f g : FD) : Bool := decide (f.W = g.W) && decide (f.H = g.H)

set_option maxRecDepth 100000 in
set_option maxHeartbeats 2000000 in
theorem ralike_any (f g : FD) (w : World) :
    Calls Tryz.prog 42 #[.agg #[.int .i64 f.W, .int .i64 f.H, .slice f.A f.l.length f.c], .agg #[.int .i64 g.W, .int .i64 g.H, .slice g.A g.l.length g.c]] w fun e w' => e = .returned (.bool (aliB f g)) ∧ Below w.heap.size w w' := by
  have N : Hid (aliB f g = (decide (f.W = g.W) && decide (f.H = g.H))) := rfl
  by_cases hW : f.W = g.W
  · have t1 : (f.W == g.W) = true := by simp [hW]
    by_cases hH : f.H = g.H
    · have t2 : (f.H == g.H) = true := by simp [hH]
      have E : Hid (aliB f g = true) := by rw [Hid, N.out]; simp [hW, hH]
      clear hW hH N
      go_enter Tryz.func42, Tryz.ntmps42
      go_wp2
      go_ret
      exact ⟨by rw [E.out]; rfl, below_mono (blw1 _ _) (blw1 _ _)⟩
    · have t2 : (f.H == g.H) = false := by simp [hH]
      have E : Hid (aliB f g = false) := by rw [Hid, N.out]; simp [hW, hH]
      clear hW hH N
      go_enter Tryz.func42, Tryz.ntmps42
      go_wp2
      go_ret
      exact ⟨by rw [E.out]; rfl, below_mono (blw1 _ _) (blw1 _ _)⟩
  · have t1 : (f.W == g.W) = false := by simp [hW]
    have E : Hid (aliB f g = false) := by rw [Hid, N.out]; simp [hW]
    clear hW N
    go_enter Tryz.func42, Tryz.ntmps42
    go_wp2
    go_ret
    exact ⟨by rw [E.out]; rfl, below_mono (blw1 _ _) (blw1 _ _)⟩

def selP (b : Bool) (x : Int) : Bool := !b || decide (0 < x)

def sumP (b : Bool) (l : List Int) : Int := (l.filter (selP b)).foldr (· + ·) 0

def cntP (b : Bool) (l : List Int) : Int := ((l.filter (selP b)).length : Nat)

theorem foldr_snoc (l : List Int) (x : Int) : (l ++ [x]).foldr (· + ·) 0 = l.foldr (· + ·) 0 + x := by
  induction l with
  | nil => simp
  | cons y t ih => simp only [List.cons_append, List.foldr_cons, ih]; omega

theorem sumP_snoc (b : Bool) (l : List Int) (x : Int) : sumP b (l ++ [x]) = sumP b l + if selP b x then x else 0 := by
  unfold sumP
  rw [List.filter_append]
  by_cases h : selP b x = true
  · rw [if_pos h, List.filter_cons_of_pos h, List.filter_nil, foldr_snoc]
  · rw [if_neg h, List.filter_cons_of_neg h, List.filter_nil, List.append_nil]; omega

theorem cntP_snoc (b : Bool) (l : List Int) (x : Int) : cntP b (l ++ [x]) = cntP b l + if selP b x then 1 else 0 := by
  unfold cntP
  rw [List.filter_append]
  by_cases h : selP b x = true
  · rw [if_pos h, List.filter_cons_of_pos h, List.filter_nil, List.length_append, List.length_singleton]; omega
  · rw [if_neg h, List.filter_cons_of_neg h, List.filter_nil, List.append_nil]; omega

theorem sumP_bd (b : Bool) (l : List Int) (h : ∀ x ∈ l, -4294967296 ≤ x ∧ x ≤ 4294967296) : -(4294967296 * (l.length : Int)) ≤ sumP b l ∧ sumP b l ≤ 4294967296 * (l.length : Int) := by
  unfold sumP
  induction l with
  | nil => simp
  | cons x t ih =>
    have h1 := h x (by simp)
    have h2 := ih (fun y hy => h y (by simp [hy]))
    rw [List.filter_cons, List.length_cons]
    split
    · rw [List.foldr_cons]; omega
    · omega

theorem cntP_bd (b : Bool) (l : List Int) : 0 ≤ cntP b l ∧ cntP b l ≤ l.length := by
  unfold cntP
  have := List.length_filter_le (selP b) l
  omega

set_option maxRecDepth 100000 in
set_option maxHeartbeats 2000000 in
theorem rtotal_any (W H : Int) (A : Option Addr) (l : List Int) (c B : Nat) (b : Bool) (hbd : ∀ x ∈ l, -4294967296 ≤ x ∧ x ≤ 4294967296) (hl : l.length ≤ 10000) (w : World) (hs : SlI w B A l c) :
    Calls Tryz.prog 55 #[.agg #[.int .i64 W, .int .i64 H, .slice A l.length c], .bool b] w fun e w' => e = .returned (.tuple #[.int .i64 (sumP b l), .int .i64 (cntP b l)]) ∧ Below w.heap.size w w' := by
  have S := Lib.hid hs
  have HBD := Lib.hid hbd
  clear hs hbd
  go_enter Tryz.func55, Tryz.ntmps55
  go_wp2
  generalize hwz : w.alloc (.cells #[.int .i64 W, .int .i64 H, .slice A l.length c] 24) = wz at *
  have KB : Hid (BlkV wz w.heap.size 24 #[.int .i64 W, .int .i64 H, .slice A l.length c]) := by rw [← hwz]; exact BlkV.fresh rfl _ _
  have HB : Hid (Below w.heap.size w wz) := by rw [← hwz]; exact blw1 _ _
  have S2 : Hid (SlI wz B A l c) := by rw [← hwz]; exact S.out.alloc _
  clear hwz
  go_loop [6, 7, 8] (fun s6 s7 s8 => ∃ k : Nat, k ≤ l.length ∧ s8 = .int .i64 k ∧ s6 = .int .i64 (sumP b (l.take k)) ∧ s7 = .int .i64 (cntP b (l.take k))) (fun _ _ v => l.length - (intOf v).toNat)
  case atStart => exact ⟨0, Nat.zero_le _, rfl, rfl, rfl⟩
  case round =>
    obtain ⟨k, hk, rfl, rfl, rfl⟩ := hrel
    have k2 : wz.cell? ⟨w.heap.size, 2, none⟩ = some (.slice A l.length c) := KB.out.at_ 2 rfl
    have hsb := sumP_bd b (l.take k) (fun x hx => HBD.out x (List.mem_of_mem_take hx))
    have hcb := cntP_bd b (l.take k)
    rw [List.length_take] at hsb hcb
    by_cases hlt : k < l.length
    · obtain ⟨bb, o, rfl, -, hck⟩ := S2.out.at_ (k := k) hlt
      have hst : Hid (l.take (k + 1) = l.take k ++ [l[k]'hlt]) := take_snoc_i l hlt
      have bk := HBD.out _ (List.getElem_mem hlt)
      generalize l[k]'hlt = x at *
      have E1 : Hid (sumP b (l.take (k + 1)) = sumP b (l.take k) + if selP b x then x else 0) := by rw [Hid, hst.out, sumP_snoc]
      have E2 : Hid (cntP b (l.take (k + 1)) = cntP b (l.take k) + if selP b x then 1 else 0) := by rw [Hid, hst.out, cntP_snoc]
      have hs1 : -42949672960000 ≤ sumP b (l.take k) ∧ sumP b (l.take k) ≤ 42949672960000 := by omega
      have hc1 : 0 ≤ cntP b (l.take k) ∧ cntP b (l.take k) ≤ 10000 := by omega
      obtain ⟨hs1, hs2⟩ := hs1
      obtain ⟨hc1, hc2⟩ := hc1
      clear hsb hcb
      generalize sumP b (l.take k) = sm at *
      generalize cntP b (l.take k) = ct at *
      cases b with
      | false =>
        have E3 : Hid (selP false x = true) := rfl
        go_wp2
        go_round
        case rel => exact ⟨k + 1, by omega, by go_num, by rw [E1.out, if_pos E3.out], by rw [E2.out, if_pos E3.out]⟩
        case measure => simp [intOf]; omega
      | true =>
        by_cases hx : 0 < x
        · have t1 : decide (0 < x) = true := decide_eq_true hx
          have E3 : Hid (selP true x = true) := by rw [Hid]; unfold selP; rw [t1]; rfl
          go_wp2
          go_round
          case rel => exact ⟨k + 1, by omega, by go_num, by rw [E1.out, if_pos E3.out], by rw [E2.out, if_pos E3.out]⟩
          case measure => simp [intOf]; omega
        · have t1 : decide (0 < x) = false := decide_eq_false hx
          have E3 : Hid (selP true x = false) := by rw [Hid]; unfold selP; rw [t1]; rfl
          go_wp2
          go_round
          case rel => exact ⟨k + 1, by omega, by go_num, by rw [E1.out, if_neg (by rw [E3.out]; simp)]; go_num, by rw [E2.out, if_neg (by rw [E3.out]; simp)]; go_num⟩
          case measure => simp [intOf]; omega
    · obtain rfl : k = l.length := by omega
      go_wp2
      go_ret2
      exact ⟨rfl, HB.out⟩

def pixR (z : Int) : Int := if -4294967296 ≤ z ∧ z ≤ 4294967296 then z else 0

set_option maxRecDepth 100000 in
set_option maxHeartbeats 2000000 in
theorem rpixel_any (n1 n2 : Bool) (A1 A2 : Option Addr) (l1 l2 : List Nat) (c1 c2 : Nat) (z : Int) (hz : froundS n1 l1 n2 l2 = (wOf z, 0)) (fz : fitZ z) (w : World) (hs1 : Sl w A1 l1 c1) (hs2 : Sl w A2 l2 c2) :
    Calls Tryz.prog 56 #[.agg #[.bool n1, .slice A1 l1.length c1, .bool n2, .slice A2 l2.length c2]] w fun e w' => e = .returned (.tuple #[.int .i64 (pixR z), .int .i64 (pixE z)]) ∧ Below w.heap.size w w' := by
  have S1 := Lib.hid hs1
  have S2 := Lib.hid hs2
  obtain ⟨⟨nw, lw⟩, hw⟩ : ∃ p, p = wOf z := ⟨_, rfl⟩
  have vw := vz_mk hw fz
  rw [← hw] at hz
  have HZ := Lib.hid hz
  have B : Hid (Below w.heap.size w w) := Below.refl _ _
  by_cases hi : -9223372036854775808 ≤ z ∧ z ≤ 9223372036854775807
  · have EI : Hid (intS nw lw = (z, 0)) := by rw [Hid]; unfold intS; rw [vw.good, vw.zv_eq, if_neg (by simp), if_pos hi]
    by_cases hp : -4294967296 ≤ z ∧ z ≤ 4294967296
    · have EP : Hid (pixE z = 0 ∧ pixR z = z) := by rw [Hid]; unfold pixE pixR; rw [if_pos hp, if_pos hp]; exact ⟨rfl, rfl⟩
      have t1 : decide (z < -4294967296) = false := decide_eq_false (by omega)
      have t2 : decide (4294967296 < z) = false := decide_eq_false (by omega)
      obtain ⟨hi1, hi2⟩ := hi
      clear hs1 hs2 hw vw hz hp fz
      go_enter Tryz.func56, Tryz.ntmps56
      go_wp2_with fail
      refine (rroundF_any n1 n2 _ _ l1 l2 _ _ _ (S1.out.alloc _) (S2.out.alloc _)).mono ?_
      rw [HZ.out]
      rintro e w3 ⟨A3, c3, rfl, hs3, hb⟩
      replace S1 := kS1 S1 hb
      replace S2 := kS1 S2 hb
      have Ka : Hid (Cf w3 w.heap.size n1 A1 l1.length c1 n2 A2 l2.length c2) := Cf.keep (Cf.fresh (by simp) _ _ _ _ _ _ _ _ _) hb
      replace B := kB1 B hb
      clear hb
      (try dsimp only at hs3)
      (try dsimp only)
      have Sw : Hid (Sl w3 A3 lw c3) := hs3
      clear hs3
      have hza := lF Ka
      clear S1
      clear S2
      clear Ka
      go_wp2_with fail
      refine (rint_any nw _ lw _ _ (Sw.out.alloc _)).mono ?_
      rw [EI.out]
      rintro e w4 ⟨rfl, hb⟩
      replace Sw := kS1 Sw hb
      have Kw : Hid (Cw w4 w3.heap.size nw A3 lw.length c3) := Cw.keep (Cw.fresh (by simp) _ _ _ _ _) hb
      replace B := kB1 B hb
      clear hb
      (try dsimp only)
      have hzw := lW Kw
      go_wp2
      go_ret2
      exact ⟨by rw [EP.out.1, EP.out.2]; rfl, B.out⟩
    · have EP : Hid (pixE z = 16 ∧ pixR z = 0) := by rw [Hid]; unfold pixE pixR; rw [if_neg hp, if_neg hp]; exact ⟨rfl, rfl⟩
      obtain ⟨hi1, hi2⟩ := hi
      clear hs1 hs2 hw vw hz fz
      by_cases hq : z < -4294967296
      · have t1 : decide (z < -4294967296) = true := decide_eq_true hq
        clear hp hq
        go_enter Tryz.func56, Tryz.ntmps56
        go_wp2_with fail
        refine (rroundF_any n1 n2 _ _ l1 l2 _ _ _ (S1.out.alloc _) (S2.out.alloc _)).mono ?_
        rw [HZ.out]
        rintro e w3 ⟨A3, c3, rfl, hs3, hb⟩
        replace S1 := kS1 S1 hb
        replace S2 := kS1 S2 hb
        have Ka : Hid (Cf w3 w.heap.size n1 A1 l1.length c1 n2 A2 l2.length c2) := Cf.keep (Cf.fresh (by simp) _ _ _ _ _ _ _ _ _) hb
        replace B := kB1 B hb
        clear hb
        (try dsimp only at hs3)
        (try dsimp only)
        have Sw : Hid (Sl w3 A3 lw c3) := hs3
        clear hs3
        have hza := lF Ka
        clear S1
        clear S2
        clear Ka
        go_wp2_with fail
        refine (rint_any nw _ lw _ _ (Sw.out.alloc _)).mono ?_
        rw [EI.out]
        rintro e w4 ⟨rfl, hb⟩
        replace Sw := kS1 Sw hb
        have Kw : Hid (Cw w4 w3.heap.size nw A3 lw.length c3) := Cw.keep (Cw.fresh (by simp) _ _ _ _ _) hb
        replace B := kB1 B hb
        clear hb
        (try dsimp only)
        have hzw := lW Kw
        go_wp2
        go_ret2
        exact ⟨by rw [EP.out.1, EP.out.2]; rfl, B.out⟩
      · have t1 : decide (z < -4294967296) = false := decide_eq_false hq
        have t2 : decide (4294967296 < z) = true := decide_eq_true (by omega)
        clear hp hq
        go_enter Tryz.func56, Tryz.ntmps56
        go_wp2_with fail
        refine (rroundF_any n1 n2 _ _ l1 l2 _ _ _ (S1.out.alloc _) (S2.out.alloc _)).mono ?_
        rw [HZ.out]
        rintro e w3 ⟨A3, c3, rfl, hs3, hb⟩
        replace S1 := kS1 S1 hb
        replace S2 := kS1 S2 hb
        have Ka : Hid (Cf w3 w.heap.size n1 A1 l1.length c1 n2 A2 l2.length c2) := Cf.keep (Cf.fresh (by simp) _ _ _ _ _ _ _ _ _) hb
        replace B := kB1 B hb
        clear hb
        (try dsimp only at hs3)
        (try dsimp only)
        have Sw : Hid (Sl w3 A3 lw c3) := hs3
        clear hs3
        have hza := lF Ka
        clear S1
        clear S2
        clear Ka
        go_wp2_with fail
        refine (rint_any nw _ lw _ _ (Sw.out.alloc _)).mono ?_
        rw [EI.out]
        rintro e w4 ⟨rfl, hb⟩
        replace Sw := kS1 Sw hb
        have Kw : Hid (Cw w4 w3.heap.size nw A3 lw.length c3) := Cw.keep (Cw.fresh (by simp) _ _ _ _ _) hb
        replace B := kB1 B hb
        clear hb
        (try dsimp only)
        have hzw := lW Kw
        go_wp2
        go_ret2
        exact ⟨by rw [EP.out.1, EP.out.2]; rfl, B.out⟩
  · have EI : Hid (intS nw lw = (0, 16)) := by rw [Hid]; unfold intS; rw [vw.good, vw.zv_eq, if_neg (by simp), if_neg hi]
    have EP : Hid (pixE z = 16 ∧ pixR z = 0) := by rw [Hid]; unfold pixE pixR; rw [if_neg (by omega), if_neg (by omega)]; exact ⟨rfl, rfl⟩
    clear hs1 hs2 hw vw hz fz hi
    go_enter Tryz.func56, Tryz.ntmps56
    go_wp2_with fail
    refine (rroundF_any n1 n2 _ _ l1 l2 _ _ _ (S1.out.alloc _) (S2.out.alloc _)).mono ?_
    rw [HZ.out]
    rintro e w3 ⟨A3, c3, rfl, hs3, hb⟩
    replace S1 := kS1 S1 hb
    replace S2 := kS1 S2 hb
    have Ka : Hid (Cf w3 w.heap.size n1 A1 l1.length c1 n2 A2 l2.length c2) := Cf.keep (Cf.fresh (by simp) _ _ _ _ _ _ _ _ _) hb
    replace B := kB1 B hb
    clear hb
    (try dsimp only at hs3)
    (try dsimp only)
    have Sw : Hid (Sl w3 A3 lw c3) := hs3
    clear hs3
    have hza := lF Ka
    clear S1
    clear S2
    clear Ka
    go_wp2_with fail
    refine (rint_any nw _ lw _ _ (Sw.out.alloc _)).mono ?_
    rw [EI.out]
    rintro e w4 ⟨rfl, hb⟩
    replace Sw := kS1 Sw hb
    have Kw : Hid (Cw w4 w3.heap.size nw A3 lw.length c3) := Cw.keep (Cw.fresh (by simp) _ _ _ _ _) hb
    replace B := kB1 B hb
    clear hb
    (try dsimp only)
    have hzw := lW Kw
    go_wp2
    go_ret2
    exact ⟨by rw [EP.out.1, EP.out.2]; rfl, B.out⟩

set_option maxRecDepth 100000 in
set_option maxHeartbeats 8000000 in
theorem rcalibrated_any (r b d f : Int) (hr1 : -4294967296 ≤ r) (hr2 : r ≤ 4294967296) (hb1 : -4294967296 ≤ b) (hb2 : b ≤ 4294967296) (hd1 : -4294967296 ≤ d) (hd2 : d ≤ 4294967296) (hf1 : -4294967296 ≤ f) (hf2 : f ≤ 4294967296) (P Q R m1 s m2 : (Bool × List Nat) × (Bool × List Nat))
    (e1 : bothF (wOf d).1 (wOf d).2 (wOf 1).1 (wOf 1).2 P.1.1 P.1.2 P.2.1 P.2.2 mulV = (m1, 0)) (e2 : bothF (wOf (r - b)).1 (wOf (r - b)).2 (wOf 1).1 (wOf 1).2 m1.1.1 m1.1.2 m1.2.1 m1.2.2 subV = (s, 0))
    (e3 : bothF s.1.1 s.1.2 s.2.1 s.2.2 Q.1.1 Q.1.2 Q.2.1 Q.2.2 mulV = (m2, 0)) (e4 : bothF m2.1.1 m2.1.2 m2.2.1 m2.2.2 (wOf f).1 (wOf f).2 (wOf 1).1 (wOf 1).2 divV = (R, 0))
    (A1 A2 A3 A4 : Option Addr) (c1 c2 c3 c4 : Nat) (w : World) (hs1 : Sl w A1 P.1.2 c1) (hs2 : Sl w A2 P.2.2 c2) (hs3 : Sl w A3 Q.1.2 c3) (hs4 : Sl w A4 Q.2.2 c4) :
    Calls Tryz.prog 57 #[.int .i64 r, .int .i64 b, .int .i64 d, .int .i64 f, .agg #[.bool P.1.1, .slice A1 P.1.2.length c1, .bool P.2.1, .slice A2 P.2.2.length c2], .agg #[.bool Q.1.1, .slice A3 Q.1.2.length c3, .bool Q.2.1, .slice A4 Q.2.2.length c4]] w (FRes1 R w) := by
  obtain ⟨⟨n1, l1⟩, ⟨n2, l2⟩⟩ := P
  obtain ⟨⟨n3, l3⟩, ⟨n4, l4⟩⟩ := Q
  obtain ⟨⟨nm1, lm1⟩, ⟨nm2, lm2⟩⟩ := m1
  obtain ⟨⟨ns1, ls1⟩, ⟨ns2, ls2⟩⟩ := s
  obtain ⟨⟨nq1, lq1⟩, ⟨nq2, lq2⟩⟩ := m2
  obtain ⟨⟨nr1, lr1⟩, ⟨nr2, lr2⟩⟩ := R
  obtain ⟨⟨no, lo⟩, ho⟩ : ∃ p, p = wOf 1 := ⟨_, rfl⟩
  obtain ⟨⟨nd, ld⟩, hd⟩ : ∃ p, p = wOf d := ⟨_, rfl⟩
  obtain ⟨⟨nv, lv⟩, hv⟩ : ∃ p, p = wOf (r - b) := ⟨_, rfl⟩
  obtain ⟨⟨nf, lf⟩, hf⟩ : ∃ p, p = wOf f := ⟨_, rfl⟩
  have S1 := Lib.hid hs1
  have S2 := Lib.hid hs2
  have S3 := Lib.hid hs3
  have S4 := Lib.hid hs4
  rw [← hd, ← ho] at e1
  rw [← hv, ← ho] at e2
  rw [← hf, ← ho] at e4
  have hWd : Hid (∀ W, Calls Tryz.prog 113 #[.int .i64 d] W (FRes1 ((nd, ld), (no, lo)) W)) := fun W => by rw [hd, ho]; exact rwhole_any d (by omega) (by omega) W
  have hWv : Hid (∀ W, Calls Tryz.prog 113 #[.int .i64 (r - b)] W (FRes1 ((nv, lv), (no, lo)) W)) := fun W => by rw [hv, ho]; exact rwhole_any (r - b) (by omega) (by omega) W
  have hWf : Hid (∀ W, Calls Tryz.prog 113 #[.int .i64 f] W (FRes1 ((nf, lf), (no, lo)) W)) := fun W => by rw [hf, ho]; exact rwhole_any f (by omega) (by omega) W
  have hM1 : Hid (∀ W A B C D c d e g, Sl W A ld c → Sl W B lo d → Sl W C l1 e → Sl W D l2 g → Calls Tryz.prog 112 #[.agg #[.bool nd, .slice A ld.length c, .bool no, .slice B lo.length d], .agg #[.bool n1, .slice C l1.length e, .bool n2, .slice D l2.length g]] W (FRes (((nm1, lm1), (nm2, lm2)), 0) W)) := fun W A B C D c d e g q1 q2 q3 q4 => by
    have h := rmulF_any nd no n1 n2 A B C D ld lo l1 l2 c d e g W q1 q2 q3 q4
    rwa [e1] at h
  have hSb : Hid (∀ W A B C D c d e g, Sl W A lv c → Sl W B lo d → Sl W C lm1 e → Sl W D lm2 g → Calls Tryz.prog 114 #[.agg #[.bool nv, .slice A lv.length c, .bool no, .slice B lo.length d], .agg #[.bool nm1, .slice C lm1.length e, .bool nm2, .slice D lm2.length g]] W (FRes (((ns1, ls1), (ns2, ls2)), 0) W)) := fun W A B C D c d e g q1 q2 q3 q4 => by
    have h := rsubF_any nv no nm1 nm2 A B C D lv lo lm1 lm2 c d e g W q1 q2 q3 q4
    rwa [e2] at h
  have hM2 : Hid (∀ W A B C D c d e g, Sl W A ls1 c → Sl W B ls2 d → Sl W C l3 e → Sl W D l4 g → Calls Tryz.prog 112 #[.agg #[.bool ns1, .slice A ls1.length c, .bool ns2, .slice B ls2.length d], .agg #[.bool n3, .slice C l3.length e, .bool n4, .slice D l4.length g]] W (FRes (((nq1, lq1), (nq2, lq2)), 0) W)) := fun W A B C D c d e g q1 q2 q3 q4 => by
    have h := rmulF_any ns1 ns2 n3 n4 A B C D ls1 ls2 l3 l4 c d e g W q1 q2 q3 q4
    rwa [e3] at h
  have hDv : Hid (∀ W A B C D c d e g, Sl W A lq1 c → Sl W B lq2 d → Sl W C lf e → Sl W D lo g → Calls Tryz.prog 115 #[.agg #[.bool nq1, .slice A lq1.length c, .bool nq2, .slice B lq2.length d], .agg #[.bool nf, .slice C lf.length e, .bool no, .slice D lo.length g]] W (FRes (((nr1, lr1), (nr2, lr2)), 0) W)) := fun W A B C D c d e g q1 q2 q3 q4 => by
    have h := rdivF_any nq1 nq2 nf no A B C D lq1 lq2 lf lo c d e g W q1 q2 q3 q4
    rwa [e4] at h
  have B : Hid (Below w.heap.size w w) := Below.refl _ _
  clear hs1 hs2 hs3 hs4 e1 e2 e3 e4 ho hd hv hf
  go_enter Tryz.func57, Tryz.ntmps57
  have Sp1 := S1
  have Sp2 := S2
  have Sq1 := S3
  have Sq2 := S4
  clear S1 S2 S3 S4
  go_upto_region 1 with fail
  replace Sp1 : Hid (Sl (((w.alloc (.cells #[.bool n1, .slice A1 l1.length c1, .bool n2, .slice A2 l2.length c2] 67)).alloc (.cells #[.bool n3, .slice A3 l3.length c3, .bool n4, .slice A4 l4.length c4] 67)).alloc (.cells #[.bool false, .slice none 0 0, .bool false, .slice none 0 0] 67)) A1 l1 c1) := (((Sp1.out.alloc _).alloc _).alloc _)
  replace Sp2 : Hid (Sl (((w.alloc (.cells #[.bool n1, .slice A1 l1.length c1, .bool n2, .slice A2 l2.length c2] 67)).alloc (.cells #[.bool n3, .slice A3 l3.length c3, .bool n4, .slice A4 l4.length c4] 67)).alloc (.cells #[.bool false, .slice none 0 0, .bool false, .slice none 0 0] 67)) A2 l2 c2) := (((Sp2.out.alloc _).alloc _).alloc _)
  replace Sq1 : Hid (Sl (((w.alloc (.cells #[.bool n1, .slice A1 l1.length c1, .bool n2, .slice A2 l2.length c2] 67)).alloc (.cells #[.bool n3, .slice A3 l3.length c3, .bool n4, .slice A4 l4.length c4] 67)).alloc (.cells #[.bool false, .slice none 0 0, .bool false, .slice none 0 0] 67)) A3 l3 c3) := (((Sq1.out.alloc _).alloc _).alloc _)
  replace Sq2 : Hid (Sl (((w.alloc (.cells #[.bool n1, .slice A1 l1.length c1, .bool n2, .slice A2 l2.length c2] 67)).alloc (.cells #[.bool n3, .slice A3 l3.length c3, .bool n4, .slice A4 l4.length c4] 67)).alloc (.cells #[.bool false, .slice none 0 0, .bool false, .slice none 0 0] 67)) A4 l4 c4) := (((Sq2.out.alloc _).alloc _).alloc _)
  have Fo : Hid (Ff (((w.alloc (.cells #[.bool n1, .slice A1 l1.length c1, .bool n2, .slice A2 l2.length c2] 67)).alloc (.cells #[.bool n3, .slice A3 l3.length c3, .bool n4, .slice A4 l4.length c4] 67)).alloc (.cells #[.bool false, .slice none 0 0, .bool false, .slice none 0 0] 67)) (w.heap.size + 1 + 1)) := (Ff.fresh (by simp) _ _)
  have Kp : Hid (Cf (((w.alloc (.cells #[.bool n1, .slice A1 l1.length c1, .bool n2, .slice A2 l2.length c2] 67)).alloc (.cells #[.bool n3, .slice A3 l3.length c3, .bool n4, .slice A4 l4.length c4] 67)).alloc (.cells #[.bool false, .slice none 0 0, .bool false, .slice none 0 0] 67)) w.heap.size n1 A1 l1.length c1 n2 A2 l2.length c2) := (Cf.keep (Cf.keep (Cf.fresh (by simp) _ _ _ _ _ _ _ _ _) (blw1 _ _)) (blw1 _ _))
  have Kq : Hid (Cf (((w.alloc (.cells #[.bool n1, .slice A1 l1.length c1, .bool n2, .slice A2 l2.length c2] 67)).alloc (.cells #[.bool n3, .slice A3 l3.length c3, .bool n4, .slice A4 l4.length c4] 67)).alloc (.cells #[.bool false, .slice none 0 0, .bool false, .slice none 0 0] 67)) (w.heap.size + 1) n3 A3 l3.length c3 n4 A4 l4.length c4) := (Cf.keep (Cf.fresh (by simp) _ _ _ _ _ _ _ _ _) (blw1 _ _))
  have Ko : Hid (Cf (((w.alloc (.cells #[.bool n1, .slice A1 l1.length c1, .bool n2, .slice A2 l2.length c2] 67)).alloc (.cells #[.bool n3, .slice A3 l3.length c3, .bool n4, .slice A4 l4.length c4] 67)).alloc (.cells #[.bool false, .slice none 0 0, .bool false, .slice none 0 0] 67)) (w.heap.size + 1 + 1) false none 0 0 false none 0 0) := (Cf.fresh (by simp) _ _ _ _ _ _ _ _ _)
  replace B : Hid (Below w.heap.size w (((w.alloc (.cells #[.bool n1, .slice A1 l1.length c1, .bool n2, .slice A2 l2.length c2] 67)).alloc (.cells #[.bool n3, .slice A3 l3.length c3, .bool n4, .slice A4 l4.length c4] 67)).alloc (.cells #[.bool false, .slice none 0 0, .bool false, .slice none 0 0] 67))) := (below_mono (below_mono (below_mono B.out (blw1 _ _)) (blw1 _ _)) (blw1 _ _))
  generalize ((w.alloc (.cells #[.bool n1, .slice A1 l1.length c1, .bool n2, .slice A2 l2.length c2] 67)).alloc (.cells #[.bool n3, .slice A3 l3.length c3, .bool n4, .slice A4 l4.length c4] 67)).alloc (.cells #[.bool false, .slice none 0 0, .bool false, .slice none 0 0] 67) = wy at *
  have hzp := lF Kp
  have hzq := lF Kq
  have hzo := lF Ko
  obtain ⟨qp0, qp1, qp2, qp3⟩ := Kp.out
  clear qp0 qp1 qp2 qp3
  go_cut [13, 14] from 17 to 23 (fun s13 s14 wx => ∃ (gx : Nat) (A11 : Option Addr) (c11 : Nat) (B11 : Option Addr) (d11 : Nat), s13 = .pointer (some ⟨gx, 0, none⟩) ∧ s14 = .int .i64 0 ∧ wy.heap.size ≤ gx ∧ Cf wx gx nm1 A11 lm1.length c11 nm2 B11 lm2.length d11 ∧ Ff wx gx ∧ Sl wx A11 lm1 c11 ∧ Sl wx B11 lm2 d11 ∧ Below wy.heap.size wy wx)
  case first =>
    have K0 : Hid (Cf wy.drew w.heap.size n1 A1 l1.length c1 n2 A2 l2.length c2) := Kp.out
    have Lp1_0 : Hid (Sl wy.drew A1 l1 c1) := Sl.drew Sp1.out
    have Lp2_0 : Hid (Sl wy.drew A2 l2 c2) := Sl.drew Sp2.out
    have Y0 : Hid (Below wy.heap.size wy wy.drew) := (Below.refl _ _).drew
    have J0 : Hid (wy.drew.cell? ⟨w.heap.size, 0, none⟩ = some (.bool n1) ∧ wy.drew.cell? ⟨w.heap.size, 1, none⟩ = some (.slice A1 l1.length c1) ∧ wy.drew.cell? ⟨w.heap.size, 2, none⟩ = some (.bool n2) ∧ wy.drew.cell? ⟨w.heap.size, 3, none⟩ = some (.slice A2 l2.length c2)) := ⟨K0.out.1, K0.out.2.1, K0.out.2.2.1, K0.out.2.2.2⟩
    have J0a : Hid ((wy.alloc (.cells #[.bool false, .slice none 0 0, .bool false, .slice none 0 0] 67)).drew.cell? ⟨w.heap.size, 0, none⟩ = some (.bool n1) ∧ (wy.alloc (.cells #[.bool false, .slice none 0 0, .bool false, .slice none 0 0] 67)).drew.cell? ⟨w.heap.size, 1, none⟩ = some (.slice A1 l1.length c1) ∧ (wy.alloc (.cells #[.bool false, .slice none 0 0, .bool false, .slice none 0 0] 67)).drew.cell? ⟨w.heap.size, 2, none⟩ = some (.bool n2) ∧ (wy.alloc (.cells #[.bool false, .slice none 0 0, .bool false, .slice none 0 0] 67)).drew.cell? ⟨w.heap.size, 3, none⟩ = some (.slice A2 l2.length c2)) := keep4 (blw1 wy.drew (.cells #[.bool false, .slice none 0 0, .bool false, .slice none 0 0] 67)) J0.out
    go_region_held3 (fun w' => w'.cell? ⟨w.heap.size, 0, none⟩ = some (.bool n1) ∧ w'.cell? ⟨w.heap.size, 1, none⟩ = some (.slice A1 l1.length c1) ∧ w'.cell? ⟨w.heap.size, 2, none⟩ = some (.bool n2) ∧ w'.cell? ⟨w.heap.size, 3, none⟩ = some (.slice A2 l2.length c2))
      (first | with_reducible exact J2.out | with_reducible exact J1.out | with_reducible exact J0.out | with_reducible exact J0a.out | with_reducible exact keep4 (blw1 _ _) J2.out | with_reducible exact keep4 (blw1 _ _) J1.out | with_reducible exact keep4 (blw1 _ _) J0.out | ((with_reducible refine farF4 J2.out ?_ _ _ _ _); omega))
      (first
        | (go_at_call 113; first | ((with_reducible refine (hWd.out wy.drew).mono ?_); rintro e v1 ⟨A10, c10, B10, d10, rfl, hs10, ht10, hb⟩; (try dsimp only at hs10); (try dsimp only at ht10); (try dsimp only); have Lg1_1 : Hid (Sl v1 A10 ld c10) := hs10; have Lg2_1 : Hid (Sl v1 B10 lo d10) := ht10; have Lp1_1 : Hid (Sl v1 A1 l1 c1) := Sl.below (Lp1_0.out) hb; have Lp2_1 : Hid (Sl v1 A2 l2 c2) := Sl.below (Lp2_0.out) hb; have K1 : Hid (Cf v1 w.heap.size n1 A1 l1.length c1 n2 A2 l2.length c2) := Cf.keep K0.out hb; have Y1 : Hid (Below wy.heap.size wy v1) := below_mono Y0.out hb; have J1 : Hid (v1.cell? ⟨w.heap.size, 0, none⟩ = some (.bool n1) ∧ v1.cell? ⟨w.heap.size, 1, none⟩ = some (.slice A1 l1.length c1) ∧ v1.cell? ⟨w.heap.size, 2, none⟩ = some (.bool n2) ∧ v1.cell? ⟨w.heap.size, 3, none⟩ = some (.slice A2 l2.length c2)) := ⟨K1.out.1, K1.out.2.1, K1.out.2.2.1, K1.out.2.2.2⟩; have hlt1 : w.heap.size < v1.heap.size := lt_of_cell (a := ⟨w.heap.size, 0, none⟩) K1.out.1; clear hb hs10 ht10) | ((with_reducible refine (hWd.out ((wy.alloc (.cells #[.bool false, .slice none 0 0, .bool false, .slice none 0 0] 67)).drew)).mono ?_); rintro e v1 ⟨A10, c10, B10, d10, rfl, hs10, ht10, hb⟩; (try dsimp only at hs10); (try dsimp only at ht10); (try dsimp only); have Lg1_1 : Hid (Sl v1 A10 ld c10) := hs10; have Lg2_1 : Hid (Sl v1 B10 lo d10) := ht10; have Lp1_1 : Hid (Sl v1 A1 l1 c1) := Sl.below (Lp1_0.out.alloc (.cells #[.bool false, .slice none 0 0, .bool false, .slice none 0 0] 67)) hb; have Lp2_1 : Hid (Sl v1 A2 l2 c2) := Sl.below (Lp2_0.out.alloc (.cells #[.bool false, .slice none 0 0, .bool false, .slice none 0 0] 67)) hb; have K1 : Hid (Cf v1 w.heap.size n1 A1 l1.length c1 n2 A2 l2.length c2) := Cf.keep (Cf.keep K0.out (blw1 _ (.cells #[.bool false, .slice none 0 0, .bool false, .slice none 0 0] 67))) hb; have Y1 : Hid (Below wy.heap.size wy v1) := below_mono (below_mono Y0.out (blw1 _ (.cells #[.bool false, .slice none 0 0, .bool false, .slice none 0 0] 67))) hb; have M1 : Hid (Cf v1 wy.heap.size false none 0 0 false none 0 0) := Cf.keep (Cf.fresh (w := wy.drew) (g := wy.heap.size) rfl false none 0 0 false none 0 0 67) hb; have F1 : Hid (Ff v1 wy.heap.size) := Ff.keep (Ff.fresh (w := wy.drew) (g := wy.heap.size) rfl _ 67) (Cf.fresh (w := wy.drew) (g := wy.heap.size) rfl false none 0 0 false none 0 0 67) hb; obtain ⟨m0_1, m1_1, m2_1, m3_1⟩ := M1.out; obtain ⟨f0_1, f1_1, f2_1, f3_1⟩ := F1.out; have hm : wy.heap.size < v1.heap.size := lt_of_cell (a := ⟨wy.heap.size, 0, none⟩) M1.out.1; have hmx : wy.heap.size ≤ wy.heap.size := Nat.le_refl _; have J1 : Hid (v1.cell? ⟨w.heap.size, 0, none⟩ = some (.bool n1) ∧ v1.cell? ⟨w.heap.size, 1, none⟩ = some (.slice A1 l1.length c1) ∧ v1.cell? ⟨w.heap.size, 2, none⟩ = some (.bool n2) ∧ v1.cell? ⟨w.heap.size, 3, none⟩ = some (.slice A2 l2.length c2)) := ⟨K1.out.1, K1.out.2.1, K1.out.2.2.1, K1.out.2.2.2⟩; have hlt1 : w.heap.size < v1.heap.size := lt_of_cell (a := ⟨w.heap.size, 0, none⟩) K1.out.1; clear hb hs10 ht10))
        | (go_at_call 112; first | ((with_reducible refine (hM1.out v1 _ _ _ _ _ _ _ _ (Lg1_1.out) (Lg2_1.out) (Lp1_1.out) (Lp2_1.out)).mono ?_); rintro e v2 ⟨A11, c11, B11, d11, rfl, hs11, ht11, hb⟩; (try dsimp only at hs11); (try dsimp only at ht11); (try dsimp only); have Lx1_2 : Hid (Sl v2 A11 lm1 c11) := hs11; have Lx2_2 : Hid (Sl v2 B11 lm2 d11) := ht11; have K2 : Hid (Cf v2 w.heap.size n1 A1 l1.length c1 n2 A2 l2.length c2) := Cf.keep K1.out hb; have Y2 : Hid (Below wy.heap.size wy v2) := below_mono Y1.out hb; (try (have M2 := Lib.hid (M1.out.keep hb); have F2 := Lib.hid (Ff.keep F1.out M1.out hb); obtain ⟨m0_2, m1_2, m2_2, m3_2⟩ := M2.out; obtain ⟨f0_2, f1_2, f2_2, f3_2⟩ := F2.out)); have J2 : Hid (v2.cell? ⟨w.heap.size, 0, none⟩ = some (.bool n1) ∧ v2.cell? ⟨w.heap.size, 1, none⟩ = some (.slice A1 l1.length c1) ∧ v2.cell? ⟨w.heap.size, 2, none⟩ = some (.bool n2) ∧ v2.cell? ⟨w.heap.size, 3, none⟩ = some (.slice A2 l2.length c2)) := ⟨K2.out.1, K2.out.2.1, K2.out.2.2.1, K2.out.2.2.2⟩; have hlt2 : w.heap.size < v2.heap.size := lt_of_cell (a := ⟨w.heap.size, 0, none⟩) K2.out.1; clear hb hs11 ht11) | ((with_reducible refine (hM1.out (v1.alloc (.cells #[.bool false, .slice none 0 0, .bool false, .slice none 0 0] 67)) _ _ _ _ _ _ _ _ (Lg1_1.out.alloc (.cells #[.bool false, .slice none 0 0, .bool false, .slice none 0 0] 67)) (Lg2_1.out.alloc (.cells #[.bool false, .slice none 0 0, .bool false, .slice none 0 0] 67)) (Lp1_1.out.alloc (.cells #[.bool false, .slice none 0 0, .bool false, .slice none 0 0] 67)) (Lp2_1.out.alloc (.cells #[.bool false, .slice none 0 0, .bool false, .slice none 0 0] 67))).mono ?_); rintro e v2 ⟨A11, c11, B11, d11, rfl, hs11, ht11, hb⟩; (try dsimp only at hs11); (try dsimp only at ht11); (try dsimp only); have Lx1_2 : Hid (Sl v2 A11 lm1 c11) := hs11; have Lx2_2 : Hid (Sl v2 B11 lm2 d11) := ht11; have K2 : Hid (Cf v2 w.heap.size n1 A1 l1.length c1 n2 A2 l2.length c2) := Cf.keep (Cf.keep K1.out (blw1 _ (.cells #[.bool false, .slice none 0 0, .bool false, .slice none 0 0] 67))) hb; have Y2 : Hid (Below wy.heap.size wy v2) := below_mono (below_mono Y1.out (blw1 _ (.cells #[.bool false, .slice none 0 0, .bool false, .slice none 0 0] 67))) hb; have M2 : Hid (Cf v2 v1.heap.size false none 0 0 false none 0 0) := Cf.keep (Cf.fresh (w := v1) (g := v1.heap.size) rfl false none 0 0 false none 0 0 67) hb; have F2 : Hid (Ff v2 v1.heap.size) := Ff.keep (Ff.fresh (w := v1) (g := v1.heap.size) rfl _ 67) (Cf.fresh (w := v1) (g := v1.heap.size) rfl false none 0 0 false none 0 0 67) hb; obtain ⟨m0_2, m1_2, m2_2, m3_2⟩ := M2.out; obtain ⟨f0_2, f1_2, f2_2, f3_2⟩ := F2.out; have hm : v1.heap.size < v2.heap.size := lt_of_cell (a := ⟨v1.heap.size, 0, none⟩) M2.out.1; have hmx : wy.heap.size ≤ v1.heap.size := Y1.out.size; have J2 : Hid (v2.cell? ⟨w.heap.size, 0, none⟩ = some (.bool n1) ∧ v2.cell? ⟨w.heap.size, 1, none⟩ = some (.slice A1 l1.length c1) ∧ v2.cell? ⟨w.heap.size, 2, none⟩ = some (.bool n2) ∧ v2.cell? ⟨w.heap.size, 3, none⟩ = some (.slice A2 l2.length c2)) := ⟨K2.out.1, K2.out.2.1, K2.out.2.2.1, K2.out.2.2.2⟩; have hlt2 : w.heap.size < v2.heap.size := lt_of_cell (a := ⟨w.heap.size, 0, none⟩) K2.out.1; clear hb hs11 ht11)))
    all_goals
      go_wp2_with fail
      go_meet
      first
        | with_reducible exact ⟨v2.heap.size, A11, c11, B11, d11, rfl, rfl, Y2.out.size, Cf.fresh rfl _ _ _ _ _ _ _ _ _, Ff.fresh rfl _ _, Lx1_2.out.alloc _, Lx2_2.out.alloc _, below_mono Y2.out (blw1 _ _)⟩
        | with_reducible exact ⟨v1.heap.size, A11, c11, B11, d11, rfl, rfl, hmx, Cf.newF M2.out, Ff.putF F2.out _ _ _ _, Lx1_2.out.setF M2.out _ _ _ _, Lx2_2.out.setF M2.out _ _ _ _, below_setF Y2.out hmx _ _ _ _⟩
        | with_reducible exact ⟨wy.heap.size, A11, c11, B11, d11, rfl, rfl, hmx, Cf.newF M2.out, Ff.putF F2.out _ _ _ _, Lx1_2.out.setF M2.out _ _ _ _, Lx2_2.out.setF M2.out _ _ _ _, below_setF Y2.out hmx _ _ _ _⟩
  case rest =>
    obtain ⟨gx, A11, c11, B11, d11, rfl, rfl, hge, hcm, hfm, hsmx1, hsmx2, hb⟩ := hcut
    have hkpx := hzp
    have hkqx := hzq
    have hkox := hzo
    replace Sp1 := kS Sp1 hb
    replace Sp2 := kS Sp2 hb
    replace Sq1 := kS Sq1 hb
    replace Sq2 := kS Sq2 hb
    replace Fo := kFf Fo Ko hb
    replace Kp := kF Kp hb
    replace Kq := kF Kq hb
    replace Ko := kF Ko hb
    replace B := kB B hb
    clear hb
    have Kx : Hid (Cf wc gx nm1 A11 lm1.length c11 nm2 B11 lm2.length d11) := hcm
    have Sx1 : Hid (Sl wc A11 lm1 c11) := hsmx1
    have Sx2 : Hid (Sl wc B11 lm2 d11) := hsmx2
    clear hcm hsmx1 hsmx2
    have hgex := hge
    clear hge
    have Fx : Hid (Ff wc gx) := hfm
    clear hfm
    generalize wc = wx1 at *
    replace hzp := lF Kp
    replace hzq := lF Kq
    replace hzo := lF Ko
    have hzx := lF Kx
    clear Sp1
    clear Sp2
    clear Kp
    obtain ⟨qx0, qx1, qx2, qx3⟩ := Kx.out
    obtain ⟨fx0, fx1, fx2, fx3⟩ := Fx.out
    go_upto_region 2 with fail
    clear qx0 qx1 qx2 qx3 fx0 fx1 fx2 fx3
    go_cut [15, 16] from 24 to 32 (fun s15 s16 wx => ∃ (gy : Nat) (A13 : Option Addr) (c13 : Nat) (B13 : Option Addr) (d13 : Nat), s15 = .pointer (some ⟨gy, 0, none⟩) ∧ s16 = .int .i64 0 ∧ wx1.heap.size ≤ gy ∧ Cf wx gy ns1 A13 ls1.length c13 ns2 B13 ls2.length d13 ∧ Ff wx gy ∧ Sl wx A13 ls1 c13 ∧ Sl wx B13 ls2 d13 ∧ Below wx1.heap.size wx1 wx)
    case first =>
      have K0 : Hid (Cf wx1.drew gx nm1 A11 lm1.length c11 nm2 B11 lm2.length d11) := Kx.out
      have Lx1_0 : Hid (Sl wx1.drew A11 lm1 c11) := Sl.drew Sx1.out
      have Lx2_0 : Hid (Sl wx1.drew B11 lm2 d11) := Sl.drew Sx2.out
      have Y0 : Hid (Below wx1.heap.size wx1 wx1.drew) := (Below.refl _ _).drew
      have J0 : Hid (wx1.drew.cell? ⟨gx, 0, none⟩ = some (.bool nm1) ∧ wx1.drew.cell? ⟨gx, 1, none⟩ = some (.slice A11 lm1.length c11) ∧ wx1.drew.cell? ⟨gx, 2, none⟩ = some (.bool nm2) ∧ wx1.drew.cell? ⟨gx, 3, none⟩ = some (.slice B11 lm2.length d11)) := ⟨K0.out.1, K0.out.2.1, K0.out.2.2.1, K0.out.2.2.2⟩
      have J0a : Hid ((wx1.alloc (.cells #[.bool false, .slice none 0 0, .bool false, .slice none 0 0] 67)).drew.cell? ⟨gx, 0, none⟩ = some (.bool nm1) ∧ (wx1.alloc (.cells #[.bool false, .slice none 0 0, .bool false, .slice none 0 0] 67)).drew.cell? ⟨gx, 1, none⟩ = some (.slice A11 lm1.length c11) ∧ (wx1.alloc (.cells #[.bool false, .slice none 0 0, .bool false, .slice none 0 0] 67)).drew.cell? ⟨gx, 2, none⟩ = some (.bool nm2) ∧ (wx1.alloc (.cells #[.bool false, .slice none 0 0, .bool false, .slice none 0 0] 67)).drew.cell? ⟨gx, 3, none⟩ = some (.slice B11 lm2.length d11)) := keep4 (blw1 wx1.drew (.cells #[.bool false, .slice none 0 0, .bool false, .slice none 0 0] 67)) J0.out
      have hwr : IntKind.i64.wrap (r - b) = r - b := IntWalk.i64_in _ (by omega)
      go_region_held3 (fun w' => w'.cell? ⟨gx, 0, none⟩ = some (.bool nm1) ∧ w'.cell? ⟨gx, 1, none⟩ = some (.slice A11 lm1.length c11) ∧ w'.cell? ⟨gx, 2, none⟩ = some (.bool nm2) ∧ w'.cell? ⟨gx, 3, none⟩ = some (.slice B11 lm2.length d11))
        (first | with_reducible exact J2.out | with_reducible exact J1.out | with_reducible exact J0.out | with_reducible exact J0a.out | with_reducible exact keep4 (blw1 _ _) J2.out | with_reducible exact keep4 (blw1 _ _) J1.out | with_reducible exact keep4 (blw1 _ _) J0.out | ((with_reducible refine farF4 J2.out ?_ _ _ _ _); omega))
        (first
          | (go_at_call 113; first | ((with_reducible refine (hWv.out wx1.drew).mono ?_); rintro e v1 ⟨A12, c12, B12, d12, rfl, hs12, ht12, hb⟩; (try dsimp only at hs12); (try dsimp only at ht12); (try dsimp only); have Lg1_1 : Hid (Sl v1 A12 lv c12) := hs12; have Lg2_1 : Hid (Sl v1 B12 lo d12) := ht12; have Lx1_1 : Hid (Sl v1 A11 lm1 c11) := Sl.below (Lx1_0.out) hb; have Lx2_1 : Hid (Sl v1 B11 lm2 d11) := Sl.below (Lx2_0.out) hb; have K1 : Hid (Cf v1 gx nm1 A11 lm1.length c11 nm2 B11 lm2.length d11) := Cf.keep K0.out hb; have Y1 : Hid (Below wx1.heap.size wx1 v1) := below_mono Y0.out hb; have J1 : Hid (v1.cell? ⟨gx, 0, none⟩ = some (.bool nm1) ∧ v1.cell? ⟨gx, 1, none⟩ = some (.slice A11 lm1.length c11) ∧ v1.cell? ⟨gx, 2, none⟩ = some (.bool nm2) ∧ v1.cell? ⟨gx, 3, none⟩ = some (.slice B11 lm2.length d11)) := ⟨K1.out.1, K1.out.2.1, K1.out.2.2.1, K1.out.2.2.2⟩; have hlt1 : gx < v1.heap.size := lt_of_cell (a := ⟨gx, 0, none⟩) K1.out.1; clear hb hs12 ht12) | ((with_reducible refine (hWv.out ((wx1.alloc (.cells #[.bool false, .slice none 0 0, .bool false, .slice none 0 0] 67)).drew)).mono ?_); rintro e v1 ⟨A12, c12, B12, d12, rfl, hs12, ht12, hb⟩; (try dsimp only at hs12); (try dsimp only at ht12); (try dsimp only); have Lg1_1 : Hid (Sl v1 A12 lv c12) := hs12; have Lg2_1 : Hid (Sl v1 B12 lo d12) := ht12; have Lx1_1 : Hid (Sl v1 A11 lm1 c11) := Sl.below (Lx1_0.out.alloc (.cells #[.bool false, .slice none 0 0, .bool false, .slice none 0 0] 67)) hb; have Lx2_1 : Hid (Sl v1 B11 lm2 d11) := Sl.below (Lx2_0.out.alloc (.cells #[.bool false, .slice none 0 0, .bool false, .slice none 0 0] 67)) hb; have K1 : Hid (Cf v1 gx nm1 A11 lm1.length c11 nm2 B11 lm2.length d11) := Cf.keep (Cf.keep K0.out (blw1 _ (.cells #[.bool false, .slice none 0 0, .bool false, .slice none 0 0] 67))) hb; have Y1 : Hid (Below wx1.heap.size wx1 v1) := below_mono (below_mono Y0.out (blw1 _ (.cells #[.bool false, .slice none 0 0, .bool false, .slice none 0 0] 67))) hb; have M1 : Hid (Cf v1 wx1.heap.size false none 0 0 false none 0 0) := Cf.keep (Cf.fresh (w := wx1.drew) (g := wx1.heap.size) rfl false none 0 0 false none 0 0 67) hb; have F1 : Hid (Ff v1 wx1.heap.size) := Ff.keep (Ff.fresh (w := wx1.drew) (g := wx1.heap.size) rfl _ 67) (Cf.fresh (w := wx1.drew) (g := wx1.heap.size) rfl false none 0 0 false none 0 0 67) hb; obtain ⟨m0_1, m1_1, m2_1, m3_1⟩ := M1.out; obtain ⟨f0_1, f1_1, f2_1, f3_1⟩ := F1.out; have hm : wx1.heap.size < v1.heap.size := lt_of_cell (a := ⟨wx1.heap.size, 0, none⟩) M1.out.1; have hmx : wx1.heap.size ≤ wx1.heap.size := Nat.le_refl _; have J1 : Hid (v1.cell? ⟨gx, 0, none⟩ = some (.bool nm1) ∧ v1.cell? ⟨gx, 1, none⟩ = some (.slice A11 lm1.length c11) ∧ v1.cell? ⟨gx, 2, none⟩ = some (.bool nm2) ∧ v1.cell? ⟨gx, 3, none⟩ = some (.slice B11 lm2.length d11)) := ⟨K1.out.1, K1.out.2.1, K1.out.2.2.1, K1.out.2.2.2⟩; have hlt1 : gx < v1.heap.size := lt_of_cell (a := ⟨gx, 0, none⟩) K1.out.1; clear hb hs12 ht12))
          | (go_at_call 114; first | ((with_reducible refine (hSb.out v1 _ _ _ _ _ _ _ _ (Lg1_1.out) (Lg2_1.out) (Lx1_1.out) (Lx2_1.out)).mono ?_); rintro e v2 ⟨A13, c13, B13, d13, rfl, hs13, ht13, hb⟩; (try dsimp only at hs13); (try dsimp only at ht13); (try dsimp only); have Ly1_2 : Hid (Sl v2 A13 ls1 c13) := hs13; have Ly2_2 : Hid (Sl v2 B13 ls2 d13) := ht13; have K2 : Hid (Cf v2 gx nm1 A11 lm1.length c11 nm2 B11 lm2.length d11) := Cf.keep K1.out hb; have Y2 : Hid (Below wx1.heap.size wx1 v2) := below_mono Y1.out hb; (try (have M2 := Lib.hid (M1.out.keep hb); have F2 := Lib.hid (Ff.keep F1.out M1.out hb); obtain ⟨m0_2, m1_2, m2_2, m3_2⟩ := M2.out; obtain ⟨f0_2, f1_2, f2_2, f3_2⟩ := F2.out)); have J2 : Hid (v2.cell? ⟨gx, 0, none⟩ = some (.bool nm1) ∧ v2.cell? ⟨gx, 1, none⟩ = some (.slice A11 lm1.length c11) ∧ v2.cell? ⟨gx, 2, none⟩ = some (.bool nm2) ∧ v2.cell? ⟨gx, 3, none⟩ = some (.slice B11 lm2.length d11)) := ⟨K2.out.1, K2.out.2.1, K2.out.2.2.1, K2.out.2.2.2⟩; have hlt2 : gx < v2.heap.size := lt_of_cell (a := ⟨gx, 0, none⟩) K2.out.1; clear hb hs13 ht13) | ((with_reducible refine (hSb.out (v1.alloc (.cells #[.bool false, .slice none 0 0, .bool false, .slice none 0 0] 67)) _ _ _ _ _ _ _ _ (Lg1_1.out.alloc (.cells #[.bool false, .slice none 0 0, .bool false, .slice none 0 0] 67)) (Lg2_1.out.alloc (.cells #[.bool false, .slice none 0 0, .bool false, .slice none 0 0] 67)) (Lx1_1.out.alloc (.cells #[.bool false, .slice none 0 0, .bool false, .slice none 0 0] 67)) (Lx2_1.out.alloc (.cells #[.bool false, .slice none 0 0, .bool false, .slice none 0 0] 67))).mono ?_); rintro e v2 ⟨A13, c13, B13, d13, rfl, hs13, ht13, hb⟩; (try dsimp only at hs13); (try dsimp only at ht13); (try dsimp only); have Ly1_2 : Hid (Sl v2 A13 ls1 c13) := hs13; have Ly2_2 : Hid (Sl v2 B13 ls2 d13) := ht13; have K2 : Hid (Cf v2 gx nm1 A11 lm1.length c11 nm2 B11 lm2.length d11) := Cf.keep (Cf.keep K1.out (blw1 _ (.cells #[.bool false, .slice none 0 0, .bool false, .slice none 0 0] 67))) hb; have Y2 : Hid (Below wx1.heap.size wx1 v2) := below_mono (below_mono Y1.out (blw1 _ (.cells #[.bool false, .slice none 0 0, .bool false, .slice none 0 0] 67))) hb; have M2 : Hid (Cf v2 v1.heap.size false none 0 0 false none 0 0) := Cf.keep (Cf.fresh (w := v1) (g := v1.heap.size) rfl false none 0 0 false none 0 0 67) hb; have F2 : Hid (Ff v2 v1.heap.size) := Ff.keep (Ff.fresh (w := v1) (g := v1.heap.size) rfl _ 67) (Cf.fresh (w := v1) (g := v1.heap.size) rfl false none 0 0 false none 0 0 67) hb; obtain ⟨m0_2, m1_2, m2_2, m3_2⟩ := M2.out; obtain ⟨f0_2, f1_2, f2_2, f3_2⟩ := F2.out; have hm : v1.heap.size < v2.heap.size := lt_of_cell (a := ⟨v1.heap.size, 0, none⟩) M2.out.1; have hmx : wx1.heap.size ≤ v1.heap.size := Y1.out.size; have J2 : Hid (v2.cell? ⟨gx, 0, none⟩ = some (.bool nm1) ∧ v2.cell? ⟨gx, 1, none⟩ = some (.slice A11 lm1.length c11) ∧ v2.cell? ⟨gx, 2, none⟩ = some (.bool nm2) ∧ v2.cell? ⟨gx, 3, none⟩ = some (.slice B11 lm2.length d11)) := ⟨K2.out.1, K2.out.2.1, K2.out.2.2.1, K2.out.2.2.2⟩; have hlt2 : gx < v2.heap.size := lt_of_cell (a := ⟨gx, 0, none⟩) K2.out.1; clear hb hs13 ht13)))
      all_goals
        go_wp2_with fail
        go_meet
        first
          | with_reducible exact ⟨v2.heap.size, A13, c13, B13, d13, rfl, rfl, Y2.out.size, Cf.fresh rfl _ _ _ _ _ _ _ _ _, Ff.fresh rfl _ _, Ly1_2.out.alloc _, Ly2_2.out.alloc _, below_mono Y2.out (blw1 _ _)⟩
          | with_reducible exact ⟨v1.heap.size, A13, c13, B13, d13, rfl, rfl, hmx, Cf.newF M2.out, Ff.putF F2.out _ _ _ _, Ly1_2.out.setF M2.out _ _ _ _, Ly2_2.out.setF M2.out _ _ _ _, below_setF Y2.out hmx _ _ _ _⟩
          | with_reducible exact ⟨wx1.heap.size, A13, c13, B13, d13, rfl, rfl, hmx, Cf.newF M2.out, Ff.putF F2.out _ _ _ _, Ly1_2.out.setF M2.out _ _ _ _, Ly2_2.out.setF M2.out _ _ _ _, below_setF Y2.out hmx _ _ _ _⟩
    case rest =>
      obtain ⟨gy, A13, c13, B13, d13, rfl, rfl, hge, hcm, hfm, hsmy1, hsmy2, hb⟩ := hcut
      have hkqy := hzq
      have hkoy := hzo
      have hkxy := hzx
      replace Sq1 := kS Sq1 hb
      replace Sq2 := kS Sq2 hb
      replace Sx1 := kS Sx1 hb
      replace Sx2 := kS Sx2 hb
      replace Fo := kFf Fo Ko hb
      replace Fx := kFf Fx Kx hb
      replace Kq := kF Kq hb
      replace Ko := kF Ko hb
      replace Kx := kF Kx hb
      replace B := kB B hb
      clear hb
      have Ky : Hid (Cf wc gy ns1 A13 ls1.length c13 ns2 B13 ls2.length d13) := hcm
      have Sy1 : Hid (Sl wc A13 ls1 c13) := hsmy1
      have Sy2 : Hid (Sl wc B13 ls2 d13) := hsmy2
      clear hcm hsmy1 hsmy2
      have hgey := hge
      clear hge
      have Fy : Hid (Ff wc gy) := hfm
      clear hfm
      generalize wc = wx2 at *
      replace hzq := lF Kq
      replace hzo := lF Ko
      replace hzx := lF Kx
      have hzy := lF Ky
      clear Sx1
      clear Sx2
      clear Kx Fx
      obtain ⟨qy0, qy1, qy2, qy3⟩ := Ky.out
      obtain ⟨fy0, fy1, fy2, fy3⟩ := Fy.out
      obtain ⟨qq0, qq1, qq2, qq3⟩ := Kq.out
      obtain ⟨qo0, qo1, qo2, qo3⟩ := Ko.out
      obtain ⟨fo0, fo1, fo2, fo3⟩ := Fo.out
      go_wp2_with fail
      refine (hM2.out _ _ _ _ _ _ _ _ _ Sy1.out Sy2.out Sq1.out Sq2.out).mono ?_
      rintro e w21 ⟨A21, c21, B21, d21, rfl, hs21, ht21, hb⟩
      clear qy0 qy1 qy2 qy3 fy0 fy1 fy2 fy3 qq0 qq1 qq2 qq3 qo0 qo1 qo2 qo3 fo0 fo1 fo2 fo3
      replace Sq1 := kS Sq1 hb
      replace Sq2 := kS Sq2 hb
      replace Sy1 := kS Sy1 hb
      replace Sy2 := kS Sy2 hb
      replace Fo := kFf Fo Ko hb
      replace Fy := kFf Fy Ky hb
      replace Kq := kF Kq hb
      replace Ko := kF Ko hb
      replace Ky := kF Ky hb
      replace B := kB B hb
      clear hb
      (try dsimp only at hs21 ht21)
      (try dsimp only)
      clear Sy1
      clear Sy2
      clear Sq1
      clear Sq2
      clear Kq
      have Sy1 : Hid (Sl w21 A21 lq1 c21) := hs21
      clear hs21
      have Sy2 : Hid (Sl w21 B21 lq2 d21) := ht21
      clear ht21
      replace hzo := lF Ko
      replace hzy := lF Ky
      obtain ⟨qo0, qo1, qo2, qo3⟩ := Ko.out
      obtain ⟨fo0, fo1, fo2, fo3⟩ := Fo.out
      obtain ⟨qy0, qy1, qy2, qy3⟩ := Ky.out
      obtain ⟨fy0, fy1, fy2, fy3⟩ := Fy.out
      go_upto_region 4 with fail
      replace Sy1 : Hid (Sl ((((w21.setCell ⟨gy, 0, none⟩ (.bool nq1)).setCell ⟨gy, 1, none⟩ (.slice A21 lq1.length c21)).setCell ⟨gy, 2, none⟩ (.bool nq2)).setCell ⟨gy, 3, none⟩ (.slice B21 lq2.length d21)) A21 lq1 c21) := (Sy1.out.setF Ky.out _ _ _ _)
      replace Sy2 : Hid (Sl ((((w21.setCell ⟨gy, 0, none⟩ (.bool nq1)).setCell ⟨gy, 1, none⟩ (.slice A21 lq1.length c21)).setCell ⟨gy, 2, none⟩ (.bool nq2)).setCell ⟨gy, 3, none⟩ (.slice B21 lq2.length d21)) B21 lq2 d21) := (Sy2.out.setF Ky.out _ _ _ _)
      replace Fo : Hid (Ff ((((w21.setCell ⟨gy, 0, none⟩ (.bool nq1)).setCell ⟨gy, 1, none⟩ (.slice A21 lq1.length c21)).setCell ⟨gy, 2, none⟩ (.bool nq2)).setCell ⟨gy, 3, none⟩ (.slice B21 lq2.length d21)) (w.heap.size + 1 + 1)) := (Ff.putF Fo.out _ _ _ _)
      replace Fy : Hid (Ff ((((w21.setCell ⟨gy, 0, none⟩ (.bool nq1)).setCell ⟨gy, 1, none⟩ (.slice A21 lq1.length c21)).setCell ⟨gy, 2, none⟩ (.bool nq2)).setCell ⟨gy, 3, none⟩ (.slice B21 lq2.length d21)) gy) := (Ff.putF Fy.out _ _ _ _)
      replace Ko : Hid (Cf ((((w21.setCell ⟨gy, 0, none⟩ (.bool nq1)).setCell ⟨gy, 1, none⟩ (.slice A21 lq1.length c21)).setCell ⟨gy, 2, none⟩ (.bool nq2)).setCell ⟨gy, 3, none⟩ (.slice B21 lq2.length d21)) (w.heap.size + 1 + 1) false none 0 0 false none 0 0) := (Cf.farF Ko.out (by omega) _ _ _ _)
      replace Ky : Hid (Cf ((((w21.setCell ⟨gy, 0, none⟩ (.bool nq1)).setCell ⟨gy, 1, none⟩ (.slice A21 lq1.length c21)).setCell ⟨gy, 2, none⟩ (.bool nq2)).setCell ⟨gy, 3, none⟩ (.slice B21 lq2.length d21)) gy nq1 A21 lq1.length c21 nq2 B21 lq2.length d21) := (Cf.newF Ky.out)
      replace B : Hid (Below w.heap.size w ((((w21.setCell ⟨gy, 0, none⟩ (.bool nq1)).setCell ⟨gy, 1, none⟩ (.slice A21 lq1.length c21)).setCell ⟨gy, 2, none⟩ (.bool nq2)).setCell ⟨gy, 3, none⟩ (.slice B21 lq2.length d21))) := (below_setF B.out (by omega) _ _ _ _)
      clear qo0 qo1 qo2 qo3 fo0 fo1 fo2 fo3 qy0 qy1 qy2 qy3 fy0 fy1 fy2 fy3
      generalize (((w21.setCell ⟨gy, 0, none⟩ (.bool nq1)).setCell ⟨gy, 1, none⟩ (.slice A21 lq1.length c21)).setCell ⟨gy, 2, none⟩ (.bool nq2)).setCell ⟨gy, 3, none⟩ (.slice B21 lq2.length d21) = wz at *
      have hzo := lF Ko
      have hzy := lF Ky
      have KoY : Hid (Cf wz.drew (w.heap.size + 1 + 1) false none 0 0 false none 0 0) := Ko.out
      have FoY : Hid (Ff wz.drew (w.heap.size + 1 + 1)) := Fo.out
      have KyY : Hid (Cf wz.drew gy nq1 A21 lq1.length c21 nq2 B21 lq2.length d21) := Ky.out
      have FyY : Hid (Ff wz.drew gy) := Fy.out
      have Sy1Y : Hid (Sl wz.drew A21 lq1 c21) := Sl.drew Sy1.out
      have Sy2Y : Hid (Sl wz.drew B21 lq2 d21) := Sl.drew Sy2.out
      have BY : Hid (Below w.heap.size w wz.drew) := Below.drew B.out
      obtain ⟨oo0, oo1, oo2, oo3⟩ := Ko.out
      obtain ⟨po0, po1, po2, po3⟩ := Fo.out
      obtain ⟨oy0, oy1, oy2, oy3⟩ := Ky.out
      obtain ⟨py0, py1, py2, py3⟩ := Fy.out
      go_region_with (first
        | (go_at_call 113; (with_reducible refine (hWf.out _).mono ?_); rintro e x1 ⟨A22, c22, B22, d22, rfl, hs22, ht22, hb⟩; (try dsimp only at hs22); (try dsimp only at ht22); (try dsimp only); have Sf1x1 : Hid (Sl x1 A22 lf c22) := hs22; have Sf2x1 : Hid (Sl x1 B22 lo d22) := ht22; have Fox1 := Lib.hid (Ff.keep FoY.out KoY.out hb); have Kox1 := Lib.hid (KoY.out.keep hb); have Fyx1 := Lib.hid (Ff.keep FyY.out KyY.out hb); have Kyx1 := Lib.hid (KyY.out.keep hb); have Sy1x1 := Lib.hid (Sy1Y.out.below hb); have Sy2x1 := Lib.hid (Sy2Y.out.below hb); have Bx1 := Lib.hid (below_mono BY.out hb); obtain ⟨oy0x1, oy1x1, oy2x1, oy3x1⟩ := Kyx1.out; obtain ⟨py0x1, py1x1, py2x1, py3x1⟩ := Fyx1.out; clear hb hs22 ht22)
        | (go_at_call 115; (with_reducible refine (hDv.out _ _ _ _ _ _ _ _ _ Sy1x1.out Sy2x1.out Sf1x1.out Sf2x1.out).mono ?_); rintro e x2 ⟨A23, c23, B23, d23, rfl, hs23, ht23, hb⟩; (try dsimp only at hs23); (try dsimp only at ht23); (try dsimp only); have Sz1x2 : Hid (Sl x2 A23 lr1 c23) := hs23; have Sz2x2 : Hid (Sl x2 B23 lr2 d23) := ht23; have Fox2 := Lib.hid (Ff.keep Fox1.out Kox1.out hb); have Kox2 := Lib.hid (Kox1.out.keep hb); have Fyx2 := Lib.hid (Ff.keep Fyx1.out Kyx1.out hb); have Kyx2 := Lib.hid (Kyx1.out.keep hb); have Sy1x2 := Lib.hid (Sy1x1.out.below hb); have Sy2x2 := Lib.hid (Sy2x1.out.below hb); have Sf1x2 := Lib.hid (Sf1x1.out.below hb); have Sf2x2 := Lib.hid (Sf2x1.out.below hb); have Bx2 := Lib.hid (below_mono Bx1.out hb); obtain ⟨oy0x2, oy1x2, oy2x2, oy3x2⟩ := Kyx2.out; obtain ⟨py0x2, py1x2, py2x2, py3x2⟩ := Fyx2.out; obtain ⟨oo0x2, oo1x2, oo2x2, oo3x2⟩ := Kox2.out; obtain ⟨po0x2, po1x2, po2x2, po3x2⟩ := Fox2.out; clear hb hs23 ht23))
      all_goals
        have Ko := Kox2; have Fo := Fox2
        have Ky := Kyx2; have Fy := Fyx2
        have Sy1 := Sy1x2
        have Sy2 := Sy2x2
        have Sf1 := Sf1x2
        have Sf2 := Sf2x2
        have Sz1 := Sz1x2
        have Sz2 := Sz2x2
        have B := Bx2
        have hzo9 := lF Ko
        have hzy9 := lF Ky
        have hne9 : w.heap.size + 1 + 1 ≠ gy := by omega
        go_wp2
        exact bodyPost_ret (v := .agg #[.bool nr1, .slice A23 lr1.length c23, .bool nr2, .slice B23 lr2.length d23]) (by simp [results, Tryz.results57, go_sem, oo0x2, oo1x2, oo2x2, oo3x2]) rfl (fres1_store (r := ((nr1, lr1), (nr2, lr2))) (Sz1.out.setF Ky.out _ _ _ _) (Sz2.out.setF Ky.out _ _ _ _) (Cf.farF Ko.out hne9 _ _ _ _) (below_setF B.out (by omega) _ _ _ _) (by omega) _ _ _ _)

end Go.Proofs.YtlekjkljajeodaaGreat

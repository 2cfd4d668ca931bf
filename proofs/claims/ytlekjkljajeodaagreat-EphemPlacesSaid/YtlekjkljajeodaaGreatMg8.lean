import Derived.BigQuiet
import Derived.Deep.QuietTactic
import Derived.Test.YtlekjkljajeodaaGreatShelf
import Derived.Test.YtlekjkljajeodaaGreatF10
import Derived.Deep.RegionHeld3
import Derived.Test.YtlekjkljajeodaaGreatF9
import Derived.Test.YtlekjkljajeodaaGreatMg6
import Derived.Deep.CutRange
import Derived.IntWalk
set_option maxHeartbeats 2000000
set_option maxRecDepth 100000
namespace Go.Proofs.YtlekjkljajeodaaGreat
open Lib renaming hid → lh
open Go.RowKit
attribute [local go_sem ↓] Go.wp_at_zero Go.wp_at_succ
structure FD where
 W : Int
 H : Int
 A : Option Addr
 l : List Int
 c : Nat
end Go.Proofs.YtlekjkljajeodaaGreat
namespace Go.Proofs.YtlekjkljajeodaaGreat
open Lib renaming hid → lh
open Go.RowKit
theorem or_mul32 (x0 x1 : Nat) (h0 : x0 < 4294967296) (h1 : x1 < 4294967296) : bits .or .u64 (x0 : Int) ((x1 : Int) * 4294967296) = ((x0 + x1 * 4294967296 : Nat) : Int) := by
 rw [u64_or _ _ (by omega) (by omega) (by omega) (by omega)];congr 1
 rw [Int.toNat_natCast, show ((x1 : Int) * 4294967296).toNat = 2 ^ 32 * x1 by omega, Nat.or_comm, ← Nat.two_pow_add_eq_or_of_lt (by omega)];omega
theorem or_zero32 (x0 : Nat) (h0 : x0 < 4294967296) : bits .or .u64 0 (x0 : Int) = (x0 : Int) := by
 rw [u64_or _ _ (by omega) (by omega) (by omega) (by omega)];simp
theorem int_any (neg : Bool) (A : Option Addr) (l : List Nat) (c : Nat) (w : World) (hs : Sl w A l c) :
  Calls Tryz.prog 109 #[.agg #[.bool neg, .slice A l.length c]] w fun e w' => e = .returned (.tuple #[.int .i64 (intS neg l).1, .int .i64 (intS neg l).2]) ∧ Below w.heap.size w w' := by
 have Hlim := lh hs.lim;have Hs := lh hs;clear hs;cases hbad : badL neg l
 ·have hc := q2e hbad;have Hgood := lh (q0l Hlim.out hbad);have Hbad := lh hbad;clear hbad;have HZ : Hid (zv neg l = if neg then -((val l : Nat) : Int) else ((val l : Nat) : Int)) := rfl;by_cases h2 : 2 < l.length
  ·have hr : intS neg l = (0, 16) := by
    have h3 := Hgood.out.1.2 (by omega);have h4 : pv l l.length = val l := q0v (Nat.le_refl _);rw [show l.length = (l.length - 1) + 1 by omega, q0q] at h4;have h5 : 4294967296 ^ 2 ≤ 4294967296 ^ (l.length - 1) := Nat.pow_le_pow_right (by omega) (by omega);have h6 : 1 * 4294967296 ^ (l.length - 1) ≤ l[l.length - 1]?.getD 0 * 4294967296 ^ (l.length - 1) := Nat.mul_le_mul_right _ (by omega);rw [intS, if_neg (by rw [Hbad.out]; simp), if_neg];rw [HZ.out];generalize val l = v at *;cases neg
    ·simp; omega
    ·simp; omega
   rw [hr];clear hr;go_enter Tryz.func109, Tryz.ntmps109
   go_wp2_with fail
   refine (q0w _ [⟨neg, A, l, c⟩] (by simp) _ ?hc).mono ?_
   case hc => exact Wcs.one (Hs.out.alloc _) (by simp)
   rintro e w1 ⟨rfl, hb⟩;rw [chkW_one];have q0 : w1.cell? ⟨w.heap.size, 0, none⟩ = some (.bool neg) := q0b hb (by go_simp);have q1 : w1.cell? ⟨w.heap.size, 1, none⟩ = some (.slice A l.length c) := q0b hb (by go_simp);have Hb := lh (q0a (blw2 _ _ _) hb);clear hb;go_wp2
   go_ret2
   exact ⟨rfl, Hb.out⟩
  ·go_enter Tryz.func109, Tryz.ntmps109
   go_wp2_with fail
   refine (q0w _ [⟨neg, A, l, c⟩] (by simp) _ ?hc).mono ?_
   case hc => exact Wcs.one (Hs.out.alloc _) (by simp)
   rintro e w1 ⟨rfl, hb⟩;rw [chkW_one];have q0 : w1.cell? ⟨w.heap.size, 0, none⟩ = some (.bool neg) := q0b hb (by go_simp);have q1 : w1.cell? ⟨w.heap.size, 1, none⟩ = some (.slice A l.length c) := q0b hb (by go_simp);have Hs1 := lh (((Hs.out.alloc _).alloc _).below hb);have Hb := lh (q0a (blw2 _ _ _) hb);clear hb;go_wp2
   go_loop [5, 6, 7, 21] (fun u _ _ i => ∃ k : Nat, k ≤ l.length ∧ i = .int .i64 k ∧ u = .int .u64 (pv l k : Nat)) (fun _ _ _ i => l.length - (intOf i).toNat)
   case atStart => exact ⟨0, Nat.zero_le _, rfl, rfl⟩
   case round =>
    obtain ⟨k, hk, rfl, rfl⟩ := hrel;by_cases hlt : k < l.length
    ·obtain ⟨b, o, rfl, hx⟩ := Hs1.out.rd.at_ (k := k) hlt;have hx2 := q0h Hlim.out k;rcases (show k = 0 ∨ k = 1 by omega) with rfl | rfl
     ·rw [Nat.add_zero] at hx;rw [q1m];have hp : pv l 1 = l[0]?.getD 0 := (by rw [q0q, q1m]; simp);generalize l[0]?.getD 0 = x0 at *;have Hp := lh hp;clear hp;go_wp2
      go_round
      case rel => exact ⟨1, by omega, rfl, by rw [Hp.out]; exact congrArg (Value.int .u64) (or_zero32 x0 hx2)⟩
      case measure => simp [intOf]; omega
     ·have hp1 : pv l 1 < 4294967296 := pv_lt Hlim.out 1;have hp : pv l 2 = pv l 1 + l[1]?.getD 0 * 4294967296 := (by rw [q0q]);generalize pv l 1 = x0 at *;generalize l[1]?.getD 0 = x1 at *;have Hp := lh hp;clear hp;go_wp2
      go_round
      case rel => exact ⟨2, by omega, rfl, by rw [Hp.out]; exact congrArg (Value.int .u64) (or_mul32 x0 x1 hp1 hx2)⟩
      case measure => simp [intOf]; omega
    ·have hp : pv l k = val l := q0v (by omega);rw [hp];have hI : intS neg l = if -9223372036854775808 ≤ zv neg l ∧ zv neg l ≤ 9223372036854775807 then (zv neg l, 0) else (0, 16) := (by rw [intS, if_neg (by rw [Hbad.out]; simp)]);rw [HZ.out] at hI;obtain ⟨U, hU⟩ : ∃ U : Int, U = ((val l : Nat) : Int) := ⟨_, rfl⟩;rw [← hU] at hI ⊢;have HI := lh hI;have hU0 : 0 ≤ U := (by omega);clear hp hU hI;cases neg
     ·by_cases hle : U < 9223372036854775808
      ·have hr : intS false l = (U, 0) := (by rw [HI.out]; simp only [Bool.false_eq_true, if_false]; rw [if_pos (by omega)]);have Hr := lh hr;clear hr;go_wp2
       go_ret2
       exact ⟨by rw [Hr.out]; rfl, Hb.out⟩
      ·have hr : intS false l = (0, 16) := (by rw [HI.out]; simp only [Bool.false_eq_true, if_false]; rw [if_neg (by omega)]);have Hr := lh hr;clear hr;go_wp2
       go_ret2
       exact ⟨by rw [Hr.out]; rfl, Hb.out⟩
     ·by_cases hle : U ≤ 9223372036854775808
      ·have hr : intS true l = (-U, 0) := (by rw [HI.out]; simp only [if_true]; rw [if_pos (by omega)]);have Hr := lh hr;clear hr;have hw : wrap64 (IntKind.u64.wrap (-U)) = -U := (by unfold wrap64; rw [IntKind.wrap_u64]; omega);have Hw := lh hw;clear hw;go_wp2
       go_ret2
       exact ⟨by rw [Hr.out]; exact congrArg (fun z => Ending.returned (.tuple #[.int .i64 z, .int .i64 0])) Hw.out, Hb.out⟩
      ·have hr : intS true l = (0, 16) := (by rw [HI.out]; simp only [if_true]; rw [if_neg (by omega)]);have Hr := lh hr;clear hr;go_wp2
       go_ret2
       exact ⟨by rw [Hr.out]; rfl, Hb.out⟩
 ·have hr : intS neg l = (0, 8) := (by rw [intS, if_pos hbad]);have hc := chk_bad hbad;rw [hr];clear hr hbad;go_enter Tryz.func109, Tryz.ntmps109
  go_wp2_with fail
  refine (q0w _ [⟨neg, A, l, c⟩] (by simp) _ ?hc).mono ?_
  case hc => exact Wcs.one (Hs.out.alloc _) (by simp)
  rintro e w1 ⟨rfl, hb⟩;rw [chkW_one];have Hb := lh (q0a (blw2 _ _ _) hb);clear hb;go_wp2
  go_ret2
  exact ⟨rfl, Hb.out⟩
theorem rint_any (neg : Bool) (A : Option Addr) (l : List Nat) (c : Nat) (w : World) (hs : Sl w A l c) :
  Calls Tryz.prog 111 #[.agg #[.bool neg, .slice A l.length c]] w fun e w' => e = .returned (.tuple #[.int .i64 (intS neg l).1, .int .i64 (intS neg l).2]) ∧ Below w.heap.size w w' := by
 have Hlim := lh hs.lim;have Hs := lh hs;clear hs;cases hbad : badL neg l
 ·have hc := q2e hbad;have Hgood := lh (q0l Hlim.out hbad);have hlen : l.length ≤ 4096 := Hgood.out.2.1;have Hbad := lh hbad;clear hbad;have HZ : Hid (zv neg l = if neg then -((val l : Nat) : Int) else ((val l : Nat) : Int)) := rfl;by_cases h2 : 2 < l.length
  ·have hr : intS neg l = (0, 16) := by
    have h3 := Hgood.out.1.2 (by omega);have h4 : pv l l.length = val l := q0v (Nat.le_refl _);rw [show l.length = (l.length - 1) + 1 by omega, q0q] at h4;have h5 : 4294967296 ^ 2 ≤ 4294967296 ^ (l.length - 1) := Nat.pow_le_pow_right (by omega) (by omega);have h6 : 1 * 4294967296 ^ (l.length - 1) ≤ l[l.length - 1]?.getD 0 * 4294967296 ^ (l.length - 1) := Nat.mul_le_mul_right _ (by omega);rw [intS, if_neg (by rw [Hbad.out]; simp), if_neg];rw [HZ.out];generalize val l = v at *;cases neg
    ·simp; omega
    ·simp; omega
   rw [hr];clear hr;go_enter Tryz.func111, Tryz.ntmps111
   go_wp2_with fail
   refine (q0m _ _ _ _ _ (Hs.out.alloc _)).mono ?_;rintro e w1 ⟨rfl, hb⟩;have q0 : w1.cell? ⟨w.heap.size, 0, none⟩ = some (.bool neg) := q0b hb (by go_simp);have q1 : w1.cell? ⟨w.heap.size, 1, none⟩ = some (.slice A l.length c) := q0b hb (by go_simp);have Hb := lh (q0a (blw1 _ _) hb);clear hb;go_wp2
   go_loop [4, 5] (fun u i => u = .int .u64 0 ∧ i = .int .i64 ((l.length : Int) - 1)) (fun _ _ => 0)
   case atStart => exact ⟨rfl, rfl⟩
   case round =>
    obtain ⟨rfl, rfl⟩ := hrel;go_wp2
    go_ret2
    exact ⟨rfl, Hb.out⟩
  ·go_enter Tryz.func111, Tryz.ntmps111
   go_wp2_with fail
   refine (q0m _ _ _ _ _ (Hs.out.alloc _)).mono ?_;rintro e w1 ⟨rfl, hb⟩;have q0 : w1.cell? ⟨w.heap.size, 0, none⟩ = some (.bool neg) := q0b hb (by go_simp);have q1 : w1.cell? ⟨w.heap.size, 1, none⟩ = some (.slice A l.length c) := q0b hb (by go_simp);have Hs1 := lh ((Hs.out.alloc _).below hb);have Hb := lh (q0a (blw1 _ _) hb);clear hb
   have hv : val l < 18446744073709551616 := by
    have h := val_lt Hlim.out;have h5 : 4294967296 ^ l.length ≤ 4294967296 ^ 2 := Nat.pow_le_pow_right (by omega) (by omega);omega
   have Hv := lh hv;clear hv;go_wp2
   go_loop [4, 5] (fun u i => ∃ (m v : Nat), m ≤ l.length ∧ i = .int .i64 ((m : Int) - 1) ∧ u = .int .u64 v ∧ v * 4294967296 ^ m + pv l m = val l) (fun _ i => (intOf i + 1).toNat)
   case atStart => exact ⟨l.length, 0, Nat.le_refl _, rfl, rfl, by rw [q0v (Nat.le_refl _)]; omega⟩
   case round =>
    obtain ⟨m, v, hm, rfl, rfl, hval⟩ := hrel;have Hval := lh hval;clear hval
    cases m with
    | succ m =>
     obtain ⟨b, o, rfl, hx⟩ := Hs1.out.rd.at_ (k := m) (by omega);have hx2 := q0h Hlim.out m;have hm1 : m ≤ 1 := by omega
     have hv : v < 4294967296 := by
      have h1 := Hval.out;have h2 := Hv.out;rcases (show m = 0 ∨ m = 1 by omega) with rfl | rfl
      ·simp at h1; omega
      ·simp at h1; omega
     have hstep : (v * 4294967296 + l[m]?.getD 0) * 4294967296 ^ m + pv l m = val l := by
      rw [← Hval.out, q0q, Nat.pow_succ, Nat.add_mul, Nat.mul_comm (4294967296 ^ m) 4294967296, ← Nat.mul_assoc]; omega
     have Hstep := lh hstep;clear hstep;generalize l[m]?.getD 0 = x at *;go_wp2
     go_round
     case rel => exact ⟨m, v * 4294967296 + x, by omega, by go_num, by go_num, Hstep.out⟩
     case measure => simp [intOf]
    | zero =>
     have hp : v = val l := (by have := Hval.out; rw [q1m] at this; simpa using this);have hI : intS neg l = if -9223372036854775808 ≤ zv neg l ∧ zv neg l ≤ 9223372036854775807 then (zv neg l, 0) else (0, 16) := (by rw [intS, if_neg (by rw [Hbad.out]; simp)]);rw [HZ.out] at hI;rw [hp];obtain ⟨U, hU⟩ : ∃ U : Int, U = ((val l : Nat) : Int) := ⟨_, rfl⟩;rw [← hU] at hI ⊢;have HI := lh hI;have hU0 : 0 ≤ U := (by omega);clear hp hU hI;cases neg
     ·by_cases hle : U < 9223372036854775808
      ·have hr : intS false l = (U, 0) := (by rw [HI.out]; simp only [Bool.false_eq_true, if_false]; rw [if_pos (by omega)]);have Hr := lh hr;clear hr;go_wp2
       go_ret2
       exact ⟨by rw [Hr.out]; rfl, Hb.out⟩
      ·have hr : intS false l = (0, 16) := (by rw [HI.out]; simp only [Bool.false_eq_true, if_false]; rw [if_neg (by omega)]);have Hr := lh hr;clear hr;go_wp2
       go_ret2
       exact ⟨by rw [Hr.out]; rfl, Hb.out⟩
     ·by_cases hle : U ≤ 9223372036854775808
      ·have hr : intS true l = (-U, 0) := (by rw [HI.out]; simp only [if_true]; rw [if_pos (by omega)]);have Hr := lh hr;clear hr;have hw : wrap64 (IntKind.u64.wrap (-U)) = -U := (by unfold wrap64; rw [IntKind.wrap_u64]; omega);have Hw := lh hw;clear hw;go_wp2
       go_ret2
       exact ⟨by rw [Hr.out]; exact congrArg (fun z => Ending.returned (.tuple #[.int .i64 z, .int .i64 0])) Hw.out, Hb.out⟩
      ·have hr : intS true l = (0, 16) := (by rw [HI.out]; simp only [if_true]; rw [if_neg (by omega)]);have Hr := lh hr;clear hr;go_wp2
       go_ret2
       exact ⟨by rw [Hr.out]; rfl, Hb.out⟩
 ·have hr : intS neg l = (0, 8) := (by rw [intS, if_pos hbad]);have hc := chk_bad hbad;rw [hr];clear hr hbad;go_enter Tryz.func111, Tryz.ntmps111
  go_wp2_with fail
  refine (q0m _ _ _ _ _ (Hs.out.alloc _)).mono ?_;rintro e w1 ⟨rfl, hb⟩;have q0 : w1.cell? ⟨w.heap.size, 0, none⟩ = some (.bool neg) := q0b hb (by go_simp);have q1 : w1.cell? ⟨w.heap.size, 1, none⟩ = some (.slice A l.length c) := q0b hb (by go_simp);have Hs1 := lh ((Hs.out.alloc _).below hb);have Hb := lh (q0a (blw1 _ _) hb);clear hb;go_wp2_with fail
  refine (q0m _ _ _ _ _ Hs1.out).mono ?_;rintro e w2 ⟨rfl, hb2⟩;have Hb2 := lh hb2;clear hb2;go_wp2
  go_ret2
  exact ⟨rfl, q0a Hb.out Hb2.out⟩
end Go.Proofs.YtlekjkljajeodaaGreat
namespace Go.Proofs.YtlekjkljajeodaaGreat
open Lib renaming hid → lh
open Go.RowKit
attribute [local go_sem ↓] Go.wp_at_zero Go.wp_at_succ
end Go.Proofs.YtlekjkljajeodaaGreat
namespace Go.Proofs.YtlekjkljajeodaaGreat
open Lib renaming hid → lh
open Go.RowKit
attribute [local go_sem ↓] Go.wp_at_zero Go.wp_at_succ
end Go.Proofs.YtlekjkljajeodaaGreat
namespace Go.Proofs.YtlekjkljajeodaaGreat
open Lib renaming hid → lh
open Go.RowKit
attribute [local go_sem ↓] Go.wp_at_zero Go.wp_at_succ
structure FV where
 n1 : Bool
 A1 : Option Addr
 m1 : Nat
 c1 : Nat
 n2 : Bool
 A2 : Option Addr
 m2 : Nat
 c2 : Nat
@[reducible] def FV.val (v : FV) : Value := .agg #[.bool v.n1, .slice v.A1 v.m1 v.c1, .bool v.n2, .slice v.A2 v.m2 v.c2]
def CF (W : World) (g : Nat) (v : FV) : Prop := Cf W g v.n1 v.A1 v.m1 v.c1 v.n2 v.A2 v.m2 v.c2
@[reducible] def zf : FV := ⟨false, none, 0, 0, false, none, 0, 0⟩
@[reducible] def putF (W : World) (g : Nat) (v : FV) : World := (((W.setCell ⟨g, 0, none⟩ (.bool v.n1)).setCell ⟨g, 1, none⟩ (.slice v.A1 v.m1 v.c1)).setCell ⟨g, 2, none⟩ (.bool v.n2)).setCell ⟨g, 3, none⟩ (.slice v.A2 v.m2 v.c2)
section
variable {w W W' : World} {ga gb : Nat} {va vb : FV} {Ta Tb : World → FV → Prop} {d0 d1 d2 d3 d4 d5 d6 d7 : Bool} {u1 u2 u3 u4 u5 u6 : Value} {o5 o6 : Option (Nat × FV)} {x1 x2 : Option FV}
end
section
variable {K : Act → World → Prop} {Q : Exit → Act → World → Prop} {a : Act} {W : World} {d : Option Tmp} {ty : TypeId} {pos : String} {after : Array Edge} {s s' g : Nat} {v : FV}
end
end Go.Proofs.YtlekjkljajeodaaGreat
namespace Go.Proofs.YtlekjkljajeodaaGreat
open Lib renaming hid → lh
open Go.RowKit
attribute [local go_sem ↓] Go.wp_at_zero Go.wp_at_succ
theorem rwhole_any (n : Int) (h1 : -9223372036854775808 ≤ n) (h2 : n ≤ 9223372036854775807) (w : World) :
  Calls Tryz.prog 113 #[.int .i64 n] w (q1g (wOf n, wOf 1) w) := by
 obtain ⟨⟨nx, lx⟩, hx⟩ : ∃ p, p = wOf n := ⟨_, rfl⟩;obtain ⟨⟨ny, ly⟩, hy⟩ : ∃ p, p = wOf 1 := ⟨_, rfl⟩;have F1 : Hid (∀ W, Calls Tryz.prog 79 #[.int .i64 n] W (WRes1 (nx, lx) W)) := fun W => by rw [hx]; exact rfrom_any n W h1 h2
 have F2 : Hid (∀ W, Calls Tryz.prog 79 #[.int .i64 1] W (WRes1 (ny, ly) W)) := fun W => by rw [hy]; exact rfrom_any 1 W (by omega) (by omega)
 rw [← hx, ← hy];have B : Hid (Below w.heap.size w w) := Below.refl _ _;clear hx hy;go_enter Tryz.func113, Tryz.ntmps113
 go_wp2_with fail
 refine (F1.out _).mono ?_;rintro e w1 ⟨A1, c1, rfl, hs1, hb⟩;have Fo : Hid (Ff w1 w.heap.size) := Ff.keep (Ff.fresh (by simp) _ _) (Cf.fresh (by simp) _ _ _ _ _ _ _ _ _) hb;have Ko : Hid (Cf w1 w.heap.size false none 0 0 false none 0 0) := Cf.keep (Cf.fresh (by simp) _ _ _ _ _ _ _ _ _) hb;replace B := kB1 B hb;clear hb;(try dsimp only at hs1);(try dsimp only);have Sx : Hid (Sl w1 A1 lx c1) := hs1;clear hs1;have hzo := lF Ko;go_wp2_with fail
 refine (F2.out _).mono ?_;rintro e w2 ⟨A2, c2, rfl, hs2, hb⟩;replace Sx := kS Sx hb;replace Fo := kFf Fo Ko hb;replace Ko := kF Ko hb;replace B := kB B hb;clear hb;(try dsimp only at hs2);(try dsimp only);have Sy : Hid (Sl w2 A2 ly c2) := hs2;clear hs2;replace hzo := lF Ko;obtain ⟨qo0, qo1, qo2, qo3⟩ := Ko.out;obtain ⟨fo0, fo1, fo2, fo3⟩ := Fo.out;go_wp2
 exact bodyPost_ret (v := .agg #[.bool nx, .slice A1 lx.length c1, .bool ny, .slice A2 ly.length c2]) (by simp [results, Tryz.results113, go_sem, qo0, qo1, qo2, qo3]) rfl (q1h (r := ((nx, lx), (ny, ly))) Sx.out Sy.out Ko.out B.out (by omega) _ _ _ _)
end Go.Proofs.YtlekjkljajeodaaGreat
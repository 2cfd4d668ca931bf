import Derived.Test.YtgnjhlnolihgcaaGreatW2
import Derived.Test.YtgnjhlnolihgcaaGreatShelf
set_option maxHeartbeats 1000000
set_option maxRecDepth 100000
namespace Go.Proofs.YtgnjhlnolihgcaaGreat
open Lib renaming hid → lh
open Go.RowKit
theorem or_mul32 (x0 x1:Nat) (h0:x0 < 4294967296) (h1:x1 < 4294967296):bits .or .u64 (x0:Int) ((x1:Int) * 4294967296)=((x0+x1 * 4294967296:Nat):Int):=by
 rw [u64_or _ _ (by omega) (by omega) (by omega) (by omega)];congr 1
 rw [Int.toNat_natCast,show ((x1:Int) * 4294967296).toNat=2 ^ 32 * x1 by omega,Nat.or_comm,← Nat.two_pow_add_eq_or_of_lt (by omega)];omega
theorem or_zero32 (x0:Nat) (h0:x0 < 4294967296):bits .or .u64 0 (x0:Int)=(x0:Int):=by
 rw [u64_or _ _ (by omega) (by omega) (by omega) (by omega)];simp
theorem int_any (neg:Bool) (A:Option Addr) (l:List Nat) (c:Nat) (w:World) (hs:Sl w A l c) :
  Calls Tryz.prog 103 #[.agg #[.bool neg,.slice A l.length c]] w fun e w'=>e=.returned (.tuple #[.int .i64 (intS neg l).1,.int .i64 (intS neg l).2])∧Below w.heap.size w w':=by
 have Hlim:=lh hs.lim;have Hs:=lh hs;clear hs;cases hbad:badL neg l
 ·have hc:=chk_good hbad;have Hgood:=lh (q0k Hlim.out hbad);have Hbad:=lh hbad;clear hbad;have HZ:Hid (zv neg l=if neg then -((val l:Nat):Int) else ((val l:Nat):Int)):=rfl;by_cases h2:2 < l.length
  ·have hr:intS neg l=(0,16):=by
    have h3:=Hgood.out.1.2 (by omega);have h4:pv l l.length=val l:=q0o (Nat.le_refl _);rw [show l.length=(l.length - 1)+1 by omega,q0f] at h4;have h5:4294967296 ^ 2≤4294967296 ^ (l.length - 1):=Nat.pow_le_pow_right (by omega) (by omega);have h6:1 * 4294967296 ^ (l.length - 1)≤l[l.length - 1]?.getD 0 * 4294967296 ^ (l.length - 1):=Nat.mul_le_mul_right _ (by omega);rw [intS,if_neg (by rw [Hbad.out]; simp),if_neg];rw [HZ.out];generalize val l=v at *;cases neg
    ·simp; omega
    ·simp; omega
   rw [hr];clear hr;go_enter Tryz.func103,Tryz.ntmps103
   go_wp2_with fail
   refine (q0h _ [⟨neg,A,l,c⟩] (by simp) _ ?hc).mono ?_
   case hc=>exact Wcs.one (Hs.out.alloc _) (by simp)
   rintro e w1 ⟨rfl,hb⟩;rw [chkW_one];have q0:w1.cell? ⟨w.heap.size,0,none⟩=some (.bool neg):=q0b hb (by go_simp);have q1:w1.cell? ⟨w.heap.size,1,none⟩=some (.slice A l.length c):=q0b hb (by go_simp);have Hb:=lh (q0a (blw2 _ _ _) hb);clear hb;go_wp2
   go_ret2
   exact ⟨rfl,Hb.out⟩
  ·go_enter Tryz.func103,Tryz.ntmps103
   go_wp2_with fail
   refine (q0h _ [⟨neg,A,l,c⟩] (by simp) _ ?hc).mono ?_
   case hc=>exact Wcs.one (Hs.out.alloc _) (by simp)
   rintro e w1 ⟨rfl,hb⟩;rw [chkW_one];have q0:w1.cell? ⟨w.heap.size,0,none⟩=some (.bool neg):=q0b hb (by go_simp);have q1:w1.cell? ⟨w.heap.size,1,none⟩=some (.slice A l.length c):=q0b hb (by go_simp);have Hs1:=lh (((Hs.out.alloc _).alloc _).below hb);have Hb:=lh (q0a (blw2 _ _ _) hb);clear hb;go_wp2
   go_loop [5,6,7,21] (fun u _ _ i=>∃ k:Nat,k≤l.length∧i=.int .i64 k∧u=.int .u64 (pv l k:Nat)) (fun _ _ _ i=>l.length - (intOf i).toNat)
   case atStart=>exact ⟨0,Nat.zero_le _,rfl,rfl⟩
   case round=>
    obtain ⟨k,hk,rfl,rfl⟩:=hrel;by_cases hlt:k < l.length
    ·obtain ⟨b,o,rfl,hx⟩:=Hs1.out.rd.at_ (k:=k) hlt;have hx2:=q0e Hlim.out k;rcases (show k=0∨k=1 by omega) with rfl | rfl
     ·rw [Nat.add_zero] at hx;rw [pv_zero];have hp:pv l 1=l[0]?.getD 0:=(by rw [q0f,pv_zero]; simp);generalize l[0]?.getD 0=x0 at *;have Hp:=lh hp;clear hp;go_wp2
      go_round
      case rel=>exact ⟨1,by omega,rfl,by rw [Hp.out]; exact congrArg (Value.int .u64) (or_zero32 x0 hx2)⟩
      case measure=>simp [intOf]; omega
     ·have hp1:pv l 1 < 4294967296:=pv_lt Hlim.out 1;have hp:pv l 2=pv l 1+l[1]?.getD 0 * 4294967296:=(by rw [q0f]);generalize pv l 1=x0 at *;generalize l[1]?.getD 0=x1 at *;have Hp:=lh hp;clear hp;go_wp2
      go_round
      case rel=>exact ⟨2,by omega,rfl,by rw [Hp.out]; exact congrArg (Value.int .u64) (or_mul32 x0 x1 hp1 hx2)⟩
      case measure=>simp [intOf]; omega
    ·have hp:pv l k=val l:=q0o (by omega);rw [hp];have hI:intS neg l=if -9223372036854775808≤zv neg l∧zv neg l≤9223372036854775807 then (zv neg l,0) else (0,16):=(by rw [intS,if_neg (by rw [Hbad.out]; simp)]);rw [HZ.out] at hI;obtain ⟨U,hU⟩:∃ U:Int,U=((val l:Nat):Int):=⟨_,rfl⟩;rw [← hU] at hI ⊢;have HI:=lh hI;have hU0:0≤U:=(by omega);clear hp hU hI;cases neg
     ·by_cases hle:U < 9223372036854775808
      ·have hr:intS false l=(U,0):=(by rw [HI.out]; simp only [Bool.false_eq_true,if_false]; rw [if_pos (by omega)]);have Hr:=lh hr;clear hr;go_wp2
       go_ret2
       exact ⟨by rw [Hr.out]; rfl,Hb.out⟩
      ·have hr:intS false l=(0,16):=(by rw [HI.out]; simp only [Bool.false_eq_true,if_false]; rw [if_neg (by omega)]);have Hr:=lh hr;clear hr;go_wp2
       go_ret2
       exact ⟨by rw [Hr.out]; rfl,Hb.out⟩
     ·by_cases hle:U≤9223372036854775808
      ·have hr:intS true l=(-U,0):=(by rw [HI.out]; simp only [if_true]; rw [if_pos (by omega)]);have Hr:=lh hr;clear hr;have hw:wrap64 (IntKind.u64.wrap (-U)) = -U:=(by unfold wrap64; rw [IntKind.wrap_u64]; omega);have Hw:=lh hw;clear hw;go_wp2
       go_ret2
       exact ⟨by rw [Hr.out]; exact congrArg (fun z=>Ending.returned (.tuple #[.int .i64 z,.int .i64 0])) Hw.out,Hb.out⟩
      ·have hr:intS true l=(0,16):=(by rw [HI.out]; simp only [if_true]; rw [if_neg (by omega)]);have Hr:=lh hr;clear hr;go_wp2
       go_ret2
       exact ⟨by rw [Hr.out]; rfl,Hb.out⟩
 ·have hr:intS neg l=(0,8):=(by rw [intS,if_pos hbad]);have hc:=chk_bad hbad;rw [hr];clear hr hbad;go_enter Tryz.func103,Tryz.ntmps103
  go_wp2_with fail
  refine (q0h _ [⟨neg,A,l,c⟩] (by simp) _ ?hc).mono ?_
  case hc=>exact Wcs.one (Hs.out.alloc _) (by simp)
  rintro e w1 ⟨rfl,hb⟩;rw [chkW_one];have Hb:=lh (q0a (blw2 _ _ _) hb);clear hb;go_wp2
  go_ret2
  exact ⟨rfl,Hb.out⟩
end Go.Proofs.YtgnjhlnolihgcaaGreat
import Derived.Test.YtcpofeehpijbcaaGreatDoorCd2
import Derived.IntWalk
import Derived.Laws.BitsAllLaws
set_option maxHeartbeats 4000000
set_option maxRecDepth 100000
namespace Go.Proofs.YtcpofeehpijbcaaGreatDoor
open Lib renaming hid → lh
open Go.RowKit Go.Lib Go.Shelf
attribute [local go_sem ↓] Go.wp_at_zero Go.wp_at_succ
theorem idx_str (s:List UInt8) (i:Nat) (h:i < s.length) (j:Int) (e:j=(i:Int)) (W:World):(Instr.index 9 (.string ⟨s.toArray⟩) (.int .i64 j)).run Tryz.prog W=.ok (.int .u8 (s[i]'h).toNat) W:=by
 subst e;rw [run_index_string _ _ _ _ _ (by kernel_rfl),dif_pos ⟨by omega,by show ((i:Int)) < (s.toArray.size:Int); simp; omega⟩];rfl
theorem w4_step' (l:List UInt8) (k p:Nat) (hp:p=k * 4) (h:p+3 < l.length) :
  w4 (l.take (p+4))=w4 (l.take p)+(l[p]'(by omega)).toNat * 16777216+(l[p+1]'(by omega)).toNat * 65536+(l[p+2]'(by omega)).toNat * 256+(l[p+3]'(by omega)).toNat:=by
 subst hp;have h1:=w4_step l k h;rwa [show (k+1) * 4=k * 4+4 by omega] at h1
theorem w4_end' (l:List UInt8) (k p:Nat) (hp:p=k * 4) (h:l.length < p+4):w4 (l.take p)=w4 l:=by
 subst hp;exact w4_end l k h
theorem or_two (a b n:Nat) (A B:Int) (hA:A=((2 ^ n * a:Nat):Int)) (hB:B=(b:Int)) (hb:b < 2 ^ n) (h:2 ^ n * a+b < 18446744073709551616):bits .or .u64 A B=((2 ^ n * a+b:Nat):Int):=by
 subst hA hB;rw [u64_or _ _ (by omega) (by omega) (by omega) (by omega)];congr 1
 rw [Int.toNat_natCast,Int.toNat_natCast,← Nat.two_pow_add_eq_or_of_lt hb]
theorem or_word (acc z0 z1 z2 z3:Nat) (ha:acc < 9223372036854775808) (h0:z0 < 2 ^ 8) (h1:z1 < 2 ^ 8) (h2:z2 < 2 ^ 8) (h3:z3 < 2 ^ 8) :
  IntKind.u64.wrap ((acc:Int)+bits .or .u64 (bits .or .u64 (bits .or .u64 ((z0:Int) * 16777216) ((z1:Int) * 65536)) ((z2:Int) * 256)) (z3:Int))=((acc+z0 * 16777216+z1 * 65536+z2 * 256+z3:Nat):Int):=by
 have e1:=or_two z0 (z1 * 65536) 24 ((z0:Int) * 16777216) ((z1:Int) * 65536) (by omega) (by omega) (by omega) (by omega);have e2:=or_two (z0 * 256+z1) (z2 * 256) 16 (((2 ^ 24 * z0+z1 * 65536:Nat):Int)) ((z2:Int) * 256) (by omega) (by omega) (by omega) (by omega);have e3:=or_two (z0 * 65536+z1 * 256+z2) z3 8 (((2 ^ 16 * (z0 * 256+z1)+z2 * 256:Nat):Int)) (z3:Int) (by omega) (by omega) (by omega) (by omega);rw [e1,e2,e3,IntKind.wrap_u64];omega
theorem fold_word (n:Nat) (h:n < 4611686018427387904):IntKind.u64.wrap ((n:Int) / 4294967296+bits .and .u64 (n:Int) 4294967295)=((n / 4294967296+n % 4294967296:Nat):Int):=by
 have e:=u64_and_nat n 4294967295 (by omega) (by omega);rw [show (4294967295:Nat)=2 ^ 32 - 1 from rfl,Nat.and_two_pow_sub_one_eq_mod] at e;rw [show (4294967295:Int)=((2 ^ 32 - 1:Nat):Int) from rfl,e,IntKind.wrap_u64];omega
theorem ret_u {a b:Int} (h:a=b):Ending.returned (.int .u32 a)=.returned (.int .u32 b):=by rw [h]
theorem total_any (b:List UInt8) (hl:b.length≤1000000) (w:World) :
  Calls Tryz.prog 99 #[.string ⟨b.toArray⟩] w fun e w'=>e=.returned (.int .u32 (tot (w4 b)))∧Below w.heap.size w w':=by
 have W4:=lh (w4_step' b);have WE:=lh (w4_end' b);have WL:=lh (w4_le b);have WB:=lh (fun k=>w4_le (b.take k));have hsz:((ByteArray.mk b.toArray).size:Int)=(b.length:Int):=(by simp [ByteArray.size]);go_enter Tryz.func99,Tryz.ntmps99
 go_wp2
 go_loopw [3,4] (fun s3 s4 wr=>∃ k p:Nat,p=k * 4∧p≤b.length+3∧s3=.int .u64 (w4 (b.take p))∧s4=.int .i64 p∧Below w.heap.size w wr) (fun _ v _=>b.length+3 - (RowKit.intOf v).toNat)
 case atStart=>exact ⟨0,0,rfl,Nat.zero_le _,rfl,rfl,Below.refl _ _⟩
 case round=>
  obtain ⟨k,p,hp,hk,rfl,rfl,hbw⟩:=hrel;have HP:=lh hp;have HB:=lh hbw;clear hbw hp;by_cases hlt:p+3 < b.length
  ·have tk:decide ((p:Int)+3 < (b.length:Int))=true:=decide_eq_true (by omega);have WN:=lh (W4.out k p HP.out hlt);have hwb:=WB.out p;rw [List.length_take] at hwb;clear W4 WB;have x0:∀ W,(Instr.index 9 (.string ⟨b.toArray⟩) (.int .i64 ((p:Int)))).run Tryz.prog W=.ok (.int .u8 (b[p]'(by omega)).toNat) W:=idx_str b (p+0) (by omega) _ (by omega);have x1:∀ W,(Instr.index 9 (.string ⟨b.toArray⟩) (.int .i64 ((p:Int)+1))).run Tryz.prog W=.ok (.int .u8 (b[p+1]'(by omega)).toNat) W:=idx_str b (p+1) (by omega) _ (by omega);have x2:∀ W,(Instr.index 9 (.string ⟨b.toArray⟩) (.int .i64 ((p:Int)+2))).run Tryz.prog W=.ok (.int .u8 (b[p+2]'(by omega)).toNat) W:=idx_str b (p+2) (by omega) _ (by omega);have x3:∀ W,(Instr.index 9 (.string ⟨b.toArray⟩) (.int .i64 ((p:Int)+3))).run Tryz.prog W=.ok (.int .u8 (b[p+3]'(by omega)).toNat) W:=idx_str b (p+3) (by omega) _ (by omega);have y0:=UInt8.toNat_lt (b[p]'(by omega));have y1:=UInt8.toNat_lt (b[p+1]'(by omega));have y2:=UInt8.toNat_lt (b[p+2]'(by omega));have y3:=UInt8.toNat_lt (b[p+3]'(by omega));generalize (b[p]'(by omega)).toNat=z0 at *;generalize (b[p+1]'(by omega)).toNat=z1 at *;generalize (b[p+2]'(by omega)).toNat=z2 at *;generalize (b[p+3]'(by omega)).toNat=z3 at *;generalize w4 (b.take p)=acc at *;have i1:IntKind.i64.wrap ((p:Int)+1)=(p:Int)+1:=IntWalk.i64_in _ (by omega);have i2:IntKind.i64.wrap ((p:Int)+2)=(p:Int)+2:=IntWalk.i64_in _ (by omega);have i3:IntKind.i64.wrap ((p:Int)+3)=(p:Int)+3:=IntWalk.i64_in _ (by omega);have i4:IntKind.i64.wrap ((p:Int)+4)=(p:Int)+4:=IntWalk.i64_in _ (by omega);go_wp2_with fail
   go_quiet (fail)
   have OW:=lh (or_word acc z0 z1 z2 z3 (by omega) y0 y1 y2 y3);rw [OW.out,← WN.out];clear x0 x1 x2 x3 OW WN;go_wp2
   go_roundw
   case rel=>exact ⟨k+1,p+4,by rw [HP.out]; omega,by omega,rfl,rfl,below_drewN HB.out _⟩
   case measure=>simp [RowKit.intOf]; omega
  ·have tk:decide ((p:Int)+3 < (b.length:Int))=false:=decide_eq_false (by omega);have EW:=lh (WE.out k p HP.out (by omega));rw [EW.out];clear EW WE WB W4;have hwl:=WL.out;clear WL;go_wp2
   go_loopw [3] (fun s3 wv=>∃ n:Nat,n < 4611686018427387904∧tot n=tot (w4 b)∧s3=.int .u64 n∧Below w.heap.size w wv) (fun v _=>(RowKit.intOf v).toNat)
   case atStart=>exact ⟨w4 b,by omega,rfl,rfl,HB.out⟩
   case round=>
    obtain ⟨n,hn,htn,rfl,hbw⟩:=hrel;have TN:=lh htn;have HV:=lh hbw;clear hbw htn;by_cases h32:n < 4294967296
    ·have hq:((n:Int) / 4294967296 != 0)=false:=(by simp; omega);go_wp2
     go_ret
     refine ⟨ret_u ?_,HV.out⟩;rw [← TN.out,tot_lt h32]
    ·have hq:((n:Int) / 4294967296 != 0)=true:=(by simp; omega);have FW:=lh (fold_word n hn);have FT:=lh (tot_fold n (by omega));go_wp2
     rw [FW.out];go_roundw
     case rel=>exact ⟨_,by omega,by rw [FT.out]; exact TN.out,rfl,HV.out⟩
     case measure=>simp [RowKit.intOf]; omega
theorem sum_any (b:List UInt8) (hl:b.length≤1000000) (h4:b.length % 4=0) (w:World) :
  Calls Tryz.prog 43 #[.string ⟨b.toArray⟩] w fun e w'=>e=.returned (.tuple #[.int .u32 (tot (w4 b)),.int .i64 0])∧Below w.heap.size w w':=by
 have HT:=lh (total_any b hl);have hr:(((b.length:Int).tmod 4) != 0)=false:=(by rw [Int.tmod_eq_emod_of_nonneg (by omega)]; simp; omega);have hr2:(((b.length:Int) % 4) != 0)=false:=(by simp; omega);go_enter Tryz.func43,Tryz.ntmps43
 go_wp2_with fail
 refine (HT.out _).mono ?_;rintro x w1 ⟨rfl,hb⟩;go_wp2
 go_ret2
 exact ⟨rfl,hb⟩
end Go.Proofs.YtcpofeehpijbcaaGreatDoor
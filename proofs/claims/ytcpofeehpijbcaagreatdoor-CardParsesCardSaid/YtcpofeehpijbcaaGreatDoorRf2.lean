import Derived.Test.YtcpofeehpijbcaaGreatDoorRf1
import Derived.Test.YtcpofeehpijbcaaGreatDoorCd3
import Derived.Lib.ItoaLen
set_option maxHeartbeats 8000000
set_option maxRecDepth 100000
namespace Go.Proofs.YtcpofeehpijbcaaGreatDoor
open List renaming getElem_toArray → z0q, getElem_cons_zero → z1q, getElem_cons_succ → z2q, setIfInBounds_toArray → z3q, set_cons_zero → z4q, set_cons_succ → z5q
open Lib renaming hid → lh
open Go.RowKit Go.Lib Go.Shelf
attribute [local go_sem ↓] Go.wp_at_zero Go.wp_at_succ
def dD (x:Nat):List UInt8:=if x=0 then [] else decDigits x
theorem dD_step {x:Nat} (h:x≠0):dD x=dD (x / 10) ++ [48+UInt8.ofNat (x % 10)]:=by
 unfold dD;rw [if_neg h,show 48+UInt8.ofNat (x % 10)=UInt8.ofNat (48+x % 10) by simp];by_cases h1:x < 10
 ·rw [if_pos (by omega),decDigits,dif_pos h1,Nat.mod_eq_of_lt h1]; rfl
 ·rw [if_neg (by omega),decDigits,dif_neg h1]
theorem dig_ext {d:Nat} (h:d < 10):(ByteArray.mk #[48,49,50,51,52,53,54,55,56,57]).extract d (d+1)=⟨#[48+UInt8.ofNat d]⟩:=by
 have:d=0∨d=1∨d=2∨d=3∨d=4∨d=5∨d=6∨d=7∨d=8∨d=9:=(by omega);rcases this with rfl | rfl | rfl | rfl | rfl | rfl | rfl | rfl | rfl | rfl <;> decide
theorem itoa_pos {x:Nat} (h:x≠0):itoa (x:Int)=dD x:=by
 unfold itoa dD;rw [if_neg (by omega),if_neg h,Int.toNat_natCast]
theorem itoa_negD {x:Nat} (h:x≠0):itoa (-(x:Int))=45 :: dD x:=by
 unfold itoa dD;rw [if_pos (by omega),if_neg h,Int.natAbs_neg,Int.natAbs_natCast]
theorem itoa_0:itoa 0=[48]:=by decide +kernel
theorem dD_len (x:Nat) (h:x≤9223372036854775808):(dD x).length≤20:=by
 unfold dD;split
 ·simp
 ·rw [decDigits_length]; exact nDigits_le20 x (by omega)
theorem rdecimal_any (n:Int) (h1 : -9223372036854775808≤n) (h2:n≤9223372036854775807) (w:World) :
  Calls Tryz.prog 153 #[.int .i64 n] w fun e w'=>e=.returned (.string ⟨(itoa n).toArray⟩)∧Below w.heap.size w w':=by
 have DS:Hid (∀ x:Nat,x≠0→dD x=dD (x / 10) ++ [48+UInt8.ofNat (x % 10)]):=fun x h=>dD_step h;have DE:Hid (∀ d:Nat,d < 10→(ByteArray.mk #[48,49,50,51,52,53,54,55,56,57]).extract d (d+1)=⟨#[48+UInt8.ofNat d]⟩):=fun d h=>dig_ext h;have AP:=lh q0e;by_cases h0:n=0
 ·subst h0;go_enter Tryz.func153,Tryz.ntmps153
  go_wp2
  go_ret
  exact ⟨by rw [itoa_0]; rfl,Below.refl _ _⟩
 ·by_cases hneg:n < 0
  ·obtain ⟨N,rfl⟩:∃ N:Nat,n=(-(N:Int)):=⟨n.natAbs,by omega⟩;have hN:N≠0:=(by omega);have IT:=lh (itoa_negD hN);have DL:=dD_len N (by omega);have e0:((-(N:Int)) == 0)=false:=beq_eq_false_iff_ne.2 h0;have e1:decide ((-(N:Int)) < 0)=true:=decide_eq_true hneg;clear hN;generalize itoa (-(N:Int))=I at *;generalize hFN:dD N=F at *;have HFN:=lh hFN;clear hFN;go_enter Tryz.func153,Tryz.ntmps153
   go_wp2
   go_loopw [0,3] (fun s0 s3 wz=>∃ (x:Nat) (S:List UInt8),s0=.int .i64 (-(x:Int))∧s3=.string ⟨S.toArray⟩∧x≤N∧dD x ++ S=F∧Below w.heap.size w wz) (fun v _ _=>(RowKit.intOf v).natAbs)
   case atStart=>exact ⟨N,[],rfl,rfl,Nat.le_refl _,by rw [HFN.out,List.append_nil],Below.refl _ _⟩
   case round=>
    obtain ⟨x,S,rfl,rfl,hx,hF,hb⟩:=hrel;have B0:=lh hb;have hSl:S.length≤20:=(by have:=congrArg List.length hF; rw [List.length_append] at this; omega);clear hb;by_cases hx0:x=0
    ·subst hx0;have hS:Hid (S=F):=hF;clear hF;go_wp2
     go_ret
     exact ⟨by rw [IT.out,← hS.out]; exact congrArg (fun z=>Ending.returned (Value.string z)) (AP.out [45] S),B0.out⟩
    ·have t0:((-(x:Int)) == 0)=false:=beq_eq_false_iff_ne.2 (by omega);have FF:Hid (dD (x / 10) ++ ((48+UInt8.ofNat (x % 10)) :: S)=F):=(by unfold Hid; rw [← hF,DS.out x hx0,List.append_assoc]; rfl);clear hF;by_cases hz:x % 10=0
     ·have hzI:(x:Int) % 10=0:=(by omega);have de0:(ByteArray.mk #[48,49,50,51,52,53,54,55,56,57]).extract 0 1=⟨#[48]⟩:=(by decide);rw [hz] at FF;have F2:Hid (dD (x / 10) ++ (48 :: S)=F):=FF.out;clear FF hz;go_wp2
      go_roundw
      case rel=>exact ⟨x / 10,48 :: S,by simp,congrArg Value.string (AP.out [48] S),by omega,F2.out,B0.out⟩
      case measure=>simp [RowKit.intOf]; omega
     ·have hpos:(0:Int) < (x:Int) % 10:=(by omega);have d0:decide (-((x:Int) % 10) < 0)=true:=decide_eq_true (by omega);have de:=DE.out (x % 10) (by omega);clear hz;go_wp2
      go_roundw
      case rel=>exact ⟨x / 10,(48+UInt8.ofNat (x % 10)) :: S,by simp,congrArg Value.string (AP.out [_] S),by omega,FF.out,B0.out⟩
      case measure=>simp [RowKit.intOf]; omega
  ·obtain ⟨N,rfl⟩:∃ N:Nat,n=(N:Int):=⟨n.natAbs,by omega⟩;have hN:N≠0:=(by omega);have IT:=lh (itoa_pos hN);have DL:=dD_len N (by omega);have e0:((N:Int) == 0)=false:=beq_eq_false_iff_ne.2 h0;have e1:decide ((N:Int) < 0)=false:=decide_eq_false hneg;clear hN;generalize itoa (N:Int)=I at *;generalize hFN:dD N=F at *;have HFN:=lh hFN;clear hFN;go_enter Tryz.func153,Tryz.ntmps153
   go_wp2
   go_loopw [0,3] (fun s0 s3 wz=>∃ (x:Nat) (S:List UInt8),s0=.int .i64 ((x:Int))∧s3=.string ⟨S.toArray⟩∧x≤N∧dD x ++ S=F∧Below w.heap.size w wz) (fun v _ _=>(RowKit.intOf v).natAbs)
   case atStart=>exact ⟨N,[],rfl,rfl,Nat.le_refl _,by rw [HFN.out,List.append_nil],Below.refl _ _⟩
   case round=>
    obtain ⟨x,S,rfl,rfl,hx,hF,hb⟩:=hrel;have B0:=lh hb;have hSl:S.length≤20:=(by have:=congrArg List.length hF; rw [List.length_append] at this; omega);clear hb;by_cases hx0:x=0
    ·subst hx0;have hS:Hid (S=F):=hF;clear hF;go_wp2
     go_ret
     exact ⟨by rw [IT.out,← hS.out]; rfl,B0.out⟩
    ·have t0:(((x:Int)) == 0)=false:=beq_eq_false_iff_ne.2 (by omega);have FF:Hid (dD (x / 10) ++ ((48+UInt8.ofNat (x % 10)) :: S)=F):=(by unfold Hid; rw [← hF,DS.out x hx0,List.append_assoc]; rfl);clear hF;have d0:decide ((x:Int) % 10 < 0)=false:=decide_eq_false (by omega);have hpos:(0:Int)≤(x:Int) % 10:=(by omega);have de:=DE.out (x % 10) (by omega);go_wp2
     go_roundw
     case rel=>exact ⟨x / 10,(48+UInt8.ofNat (x % 10)) :: S,by simp,congrArg Value.string (AP.out [_] S),by omega,FF.out,B0.out⟩
     case measure=>simp [RowKit.intOf]; omega
theorem rfield_any (c:CD) (hc:OkC c) (ht:c.kd=5→c.t.length≤10000) (w:World) :
  Calls Tryz.prog 110 #[.agg #[.string ⟨c.k.toArray⟩,.int .u8 c.kd,.bool c.y,.int .i64 c.n,.int .i64 c.e,.string ⟨c.t.toArray⟩,.string ⟨c.o.toArray⟩]] w fun e w'=>e=.returned (.string ⟨(q0m c).toArray⟩)∧Below w.heap.size w w':=by
 have n1:=hc.n1;have n2:=hc.n2;have e1:=hc.e1;have e2:=hc.e2;have HF:Hid (q0m c=if c.kd=5 then padR (39 :: (padR (esc c.t) 8 ++ [39])) 20 else padL (rawF c) 20):=rfl;have HR:Hid (rawF c=if c.kd=2 then (if c.y then [84] else [70]) else if c.kd=3 then itoa c.n else if c.kd=4 then itoa c.n ++ (46 :: 69 :: itoa c.e) else []):=rfl;have DN:=lh (fun W=>rdecimal_any c.n n1 n2 W);have DE:=lh (fun W=>rdecimal_any c.e e1 e2 W);have LN:=itoa_length_le c.n n1 n2;have LE:=itoa_length_le c.e e1 e2;have HD:=lh (fun (h:c.t.length≤100000) W=>rdoubled_any c.t h W);have HL:=lh (esc_len c.t);have PB:=lh (fun l n h1 h2 W=>rbehind_any l n h1 h2 W)
 have PL:Hid (∀ (l:List UInt8) (h:l.length≤1000) (W:World),Calls Tryz.prog 156 #[.int .i64 (20 - (l.length:Int))] W fun e w'=>e=.returned (.string ⟨(List.replicate (20 - l.length) (32:UInt8)).toArray⟩)∧Below W.heap.size W w'):=fun l hl W=>by
  have h:=rspaces_any (20 - (l.length:Int)) (by omega) W;rw [show (20 - (l.length:Int)).toNat=20 - l.length by omega] at h;exact h
 have PA:Hid (∀ l:List UInt8,ByteArray.mk (List.replicate (20 - l.length) (32:UInt8)).toArray ++ ByteArray.mk l.toArray=ByteArray.mk (padL l 20).toArray):=fun l=>q0e _ _;have RL:Hid (∀ l:List UInt8,(List.replicate (20 - l.length) (32:UInt8)).length≤20):=fun l=>by rw [List.length_replicate]; omega
 have AP:=lh q0e;have B0:Hid (Below w.heap.size w (w.alloc (.cells #[.string ⟨c.k.toArray⟩,.int .u8 c.kd,.bool c.y,.int .i64 c.n,.int .i64 c.e,.string ⟨c.t.toArray⟩,.string ⟨c.o.toArray⟩] 31))):=blw1 _ _;have K0:Hid (BlkV (w.alloc (.cells #[.string ⟨c.k.toArray⟩,.int .u8 c.kd,.bool c.y,.int .i64 c.n,.int .i64 c.e,.string ⟨c.t.toArray⟩,.string ⟨c.o.toArray⟩] 31)) w.heap.size 31 #[.string ⟨c.k.toArray⟩,.int .u8 c.kd,.bool c.y,.int .i64 c.n,.int .i64 c.e,.string ⟨c.t.toArray⟩,.string ⟨c.o.toArray⟩]):=BlkV.fresh rfl _ _;clear hc;generalize q0m c=F at *;generalize rawF c=RW at *;generalize itoa c.n=IN at *;generalize itoa c.e=IE at *;generalize hes:esc c.t=ES at *;clear hes;obtain ⟨k,kd,y,n,e,tx,no⟩:=c;dsimp only at *;by_cases h5:kd=5
 ·have a2:((kd:Int) == 2)=false:=beq_eq_false_iff_ne.2 (by omega);have a3:((kd:Int) == 3)=false:=beq_eq_false_iff_ne.2 (by omega);have a4:((kd:Int) == 4)=false:=beq_eq_false_iff_ne.2 (by omega);have a5:((kd:Int) == 5)=true:=(by simp; omega);have htx:=ht h5;have HF5:Hid (F=padR (39 :: (padR ES 8 ++ [39])) 20):=(by unfold Hid; rw [HF.out,if_pos h5]);have hd:=lh (HD.out (by omega));have hl:=HL.out;have pl8:=padR_len ES 8;clear h5 HF HR ht;go_enter Tryz.func110,Tryz.ntmps110
  go_upto_region 2 with fail
  generalize w.alloc (.cells #[.string ⟨k.toArray⟩,.int .u8 kd,.bool y,.int .i64 n,.int .i64 e,.string ⟨tx.toArray⟩,.string ⟨no.toArray⟩] 31)=w0 at *;have c0:=K0.out.at_ 0 rfl;have c1:=K0.out.at_ 1 rfl;have c2:=K0.out.at_ 2 rfl;have c3:=K0.out.at_ 3 rfl;have c4:=K0.out.at_ 4 rfl;have c5:=K0.out.at_ 5 rfl;have c6:=K0.out.at_ 6 rfl;go_wp2_with fail
  refine (hd.out _).mono ?_;rintro x w1 ⟨rfl,hb⟩;replace B0:=lh (q0a B0.out hb);replace K0:=lh (K0.out.keep hb);clear hb c0 c1 c2 c3 c4 c5 c6;have c0:=K0.out.at_ 0 rfl;have c1:=K0.out.at_ 1 rfl;have c2:=K0.out.at_ 2 rfl;have c3:=K0.out.at_ 3 rfl;have c4:=K0.out.at_ 4 rfl;have c5:=K0.out.at_ 5 rfl;have c6:=K0.out.at_ 6 rfl;go_wp2_with fail
  refine (PB.out ES 8 (by omega) (by omega) _).mono ?_;rintro x w1 ⟨rfl,hb⟩;replace B0:=lh (q0a B0.out hb);replace K0:=lh (K0.out.keep hb);clear hb c0 c1 c2 c3 c4 c5 c6;have c0:=K0.out.at_ 0 rfl;have c1:=K0.out.at_ 1 rfl;have c2:=K0.out.at_ 2 rfl;have c3:=K0.out.at_ 3 rfl;have c4:=K0.out.at_ 4 rfl;have c5:=K0.out.at_ 5 rfl;have c6:=K0.out.at_ 6 rfl;have ap1:ByteArray.mk #[39] ++ ByteArray.mk (padR ES 8).toArray=ByteArray.mk (39 :: padR ES 8).toArray:=AP.out [39] (padR ES 8);have ap2:ByteArray.mk (39 :: padR ES 8).toArray ++ ByteArray.mk #[39]=ByteArray.mk (39 :: (padR ES 8 ++ [39])).toArray:=AP.out (39 :: padR ES 8) [39];have AQ1:=lh ap1;have AQ2:=lh ap2;clear ap1 ap2;generalize padR ES 8=P8 at *;have hl3:(39 :: P8).length=P8.length+1:=rfl;go_wp2_with fail
  rw [AQ1.out,AQ2.out];refine (PB.out (39 :: (P8 ++ [39])) 20 (by simp only [List.length_cons,List.length_append,List.length_nil]; omega) (by omega) _).mono ?_;rintro x w3 ⟨rfl,hb⟩;replace B0:=lh (q0a B0.out hb);clear hb;go_wp2
  go_ret
  exact ⟨by rw [HF5.out]; rfl,B0.out⟩
 ·have HF5:Hid (F=padL RW 20):=(by unfold Hid; rw [HF.out,if_neg h5]);have g5:((kd:Int) == 5)=false:=beq_eq_false_iff_ne.2 (by omega);clear HF HD HL ht PB;by_cases h2:kd=2
  ·have a2:((kd:Int) == 2)=true:=(by simp; omega);have a3:((kd:Int) == 3)=false:=beq_eq_false_iff_ne.2 (by omega);have a4:((kd:Int) == 4)=false:=beq_eq_false_iff_ne.2 (by omega)
   cases y with
   | true=>
    have hR:Hid (RW=[84]):=(by unfold Hid; rw [HR.out,if_pos h2]; rfl);clear HR h2 h5;have hR2:Hid (F=padL [84] 20):=(by unfold Hid; rw [HF5.out,hR.out]);have RP:Hid (∀ W,Calls Tryz.prog 156 #[.int .i64 19] W fun e w'=>e=.returned (.string ⟨(List.replicate 19 (32:UInt8)).toArray⟩)∧Below W.heap.size W w'):=fun W=>rspaces_any 19 (by omega) W;have pa:Hid (ByteArray.mk (List.replicate 19 (32:UInt8)).toArray ++ ByteArray.mk #[84]=ByteArray.mk (padL [84] 20).toArray):=PA.out [84];have hln:(List.replicate 19 (32:UInt8)).length=19:=List.length_replicate;clear hR HF5 PA PL RL;generalize List.replicate 19 (32:UInt8)=U at *;go_enter Tryz.func110,Tryz.ntmps110
    go_upto_region 2 with fail
    generalize w.alloc (.cells #[.string ⟨k.toArray⟩,.int .u8 kd,.bool true,.int .i64 n,.int .i64 e,.string ⟨tx.toArray⟩,.string ⟨no.toArray⟩] 31)=w0 at *;have c0:=K0.out.at_ 0 rfl;have c1:=K0.out.at_ 1 rfl;have c2:=K0.out.at_ 2 rfl;have c3:=K0.out.at_ 3 rfl;have c4:=K0.out.at_ 4 rfl;have c5:=K0.out.at_ 5 rfl;have c6:=K0.out.at_ 6 rfl;go_wp2_with fail
    refine (RP.out _).mono ?_;rintro x w3 ⟨rfl,hb⟩;replace B0:=lh (q0a B0.out hb);clear hb;go_wp2
    go_ret
    exact ⟨by rw [hR2.out,← pa.out]; rfl,B0.out⟩
   | false=>
    have hR:Hid (RW=[70]):=(by unfold Hid; rw [HR.out,if_pos h2]; rfl);clear HR h2 h5;have hR2:Hid (F=padL [70] 20):=(by unfold Hid; rw [HF5.out,hR.out]);have RP:Hid (∀ W,Calls Tryz.prog 156 #[.int .i64 19] W fun e w'=>e=.returned (.string ⟨(List.replicate 19 (32:UInt8)).toArray⟩)∧Below W.heap.size W w'):=fun W=>rspaces_any 19 (by omega) W;have pa:Hid (ByteArray.mk (List.replicate 19 (32:UInt8)).toArray ++ ByteArray.mk #[70]=ByteArray.mk (padL [70] 20).toArray):=PA.out [70];have hln:(List.replicate 19 (32:UInt8)).length=19:=List.length_replicate;clear hR HF5 PA PL RL;generalize List.replicate 19 (32:UInt8)=U at *;go_enter Tryz.func110,Tryz.ntmps110
    go_upto_region 2 with fail
    generalize w.alloc (.cells #[.string ⟨k.toArray⟩,.int .u8 kd,.bool false,.int .i64 n,.int .i64 e,.string ⟨tx.toArray⟩,.string ⟨no.toArray⟩] 31)=w0 at *;have c0:=K0.out.at_ 0 rfl;have c1:=K0.out.at_ 1 rfl;have c2:=K0.out.at_ 2 rfl;have c3:=K0.out.at_ 3 rfl;have c4:=K0.out.at_ 4 rfl;have c5:=K0.out.at_ 5 rfl;have c6:=K0.out.at_ 6 rfl;go_wp2_with fail
    refine (RP.out _).mono ?_;rintro x w3 ⟨rfl,hb⟩;replace B0:=lh (q0a B0.out hb);clear hb;go_wp2
    go_ret
    exact ⟨by rw [hR2.out,← pa.out]; rfl,B0.out⟩
  ·by_cases h3:kd=3
   ·have a2:((kd:Int) == 2)=false:=beq_eq_false_iff_ne.2 (by omega);have a3:((kd:Int) == 3)=true:=(by simp; omega);have a4:((kd:Int) == 4)=false:=beq_eq_false_iff_ne.2 (by omega);have hR:Hid (RW=IN):=(by unfold Hid; rw [HR.out,if_neg h2,if_pos h3]);clear HR h2 h3 h5;have hR2:Hid (F=padL IN 20):=(by unfold Hid; rw [HF5.out,hR.out]);have pl:=lh (PL.out IN (by omega));have pa:=lh (PA.out IN);have rl:=RL.out IN;clear hR HF5 PA PL RL;have i1:IntKind.i64.wrap (20 - (IN.length:Int))=20 - (IN.length:Int):=IntWalk.i64_in _ (by omega);generalize List.replicate (20 - IN.length) (32:UInt8)=U at *;go_enter Tryz.func110,Tryz.ntmps110
    go_upto_region 2 with fail
    generalize w.alloc (.cells #[.string ⟨k.toArray⟩,.int .u8 kd,.bool y,.int .i64 n,.int .i64 e,.string ⟨tx.toArray⟩,.string ⟨no.toArray⟩] 31)=w0 at *;have c0:=K0.out.at_ 0 rfl;have c1:=K0.out.at_ 1 rfl;have c2:=K0.out.at_ 2 rfl;have c3:=K0.out.at_ 3 rfl;have c4:=K0.out.at_ 4 rfl;have c5:=K0.out.at_ 5 rfl;have c6:=K0.out.at_ 6 rfl;go_wp2_with fail
    refine (DN.out _).mono ?_;rintro x w1 ⟨rfl,hb⟩;replace B0:=lh (q0a B0.out hb);replace K0:=lh (K0.out.keep hb);clear hb c0 c1 c2 c3 c4 c5 c6;have c0:=K0.out.at_ 0 rfl;have c1:=K0.out.at_ 1 rfl;have c2:=K0.out.at_ 2 rfl;have c3:=K0.out.at_ 3 rfl;have c4:=K0.out.at_ 4 rfl;have c5:=K0.out.at_ 5 rfl;have c6:=K0.out.at_ 6 rfl;go_wp2_with fail
    refine (pl.out _).mono ?_;rintro x w3 ⟨rfl,hb⟩;replace B0:=lh (q0a B0.out hb);clear hb;go_wp2
    go_ret
    exact ⟨by rw [hR2.out,← pa.out]; rfl,B0.out⟩
   ·by_cases h4:kd=4
    ·have a2:((kd:Int) == 2)=false:=beq_eq_false_iff_ne.2 (by omega);have a3:((kd:Int) == 3)=false:=beq_eq_false_iff_ne.2 (by omega);have a4:((kd:Int) == 4)=true:=(by simp; omega);have hR:Hid (RW=IN ++ 46 :: 69 :: IE):=(by unfold Hid; rw [HR.out,if_neg h2,if_neg h3,if_pos h4]);clear HR h2 h3 h4 h5;have ap1:Hid (ByteArray.mk IN.toArray ++ ByteArray.mk #[46,69]=ByteArray.mk (IN ++ [46,69]).toArray):=AP.out IN [46,69]
     have ap2:Hid (ByteArray.mk (IN ++ [46,69]).toArray ++ ByteArray.mk IE.toArray=ByteArray.mk (IN ++ 46 :: 69 :: IE).toArray):=by
      have h:=AP.out (IN ++ [46,69]) IE;rw [List.append_assoc] at h;exact h
     have hl2:(IN ++ [46,69]).length=IN.length+2:=(by simp);have hl3:(IN ++ 46 :: 69 :: IE).length≤100:=(by simp; omega);generalize IN ++ [46,69]=I2 at *;generalize IN ++ 46 :: 69 :: IE=S at *;have hR2:Hid (F=padL S 20):=(by unfold Hid; rw [HF5.out,hR.out]);have pl:=lh (PL.out S (by omega));have pa:=lh (PA.out S);have rl:=RL.out S;clear hR HF5 PA PL RL;have i1:IntKind.i64.wrap (20 - (S.length:Int))=20 - (S.length:Int):=IntWalk.i64_in _ (by omega);generalize List.replicate (20 - S.length) (32:UInt8)=U at *;go_enter Tryz.func110,Tryz.ntmps110
     go_upto_region 2 with fail
     generalize w.alloc (.cells #[.string ⟨k.toArray⟩,.int .u8 kd,.bool y,.int .i64 n,.int .i64 e,.string ⟨tx.toArray⟩,.string ⟨no.toArray⟩] 31)=w0 at *;have c0:=K0.out.at_ 0 rfl;have c1:=K0.out.at_ 1 rfl;have c2:=K0.out.at_ 2 rfl;have c3:=K0.out.at_ 3 rfl;have c4:=K0.out.at_ 4 rfl;have c5:=K0.out.at_ 5 rfl;have c6:=K0.out.at_ 6 rfl;go_upto_region 10 with fail
     have JS:Hid (∀ X,Below w0.heap.size w0 X→X.cell? ⟨w.heap.size,3,none⟩=some (.int .i64 n)∧X.cell? ⟨w.heap.size,4,none⟩=some (.int .i64 e)):=fun X h=>⟨q0b h (K0.out.at_ 3 rfl),q0b h (K0.out.at_ 4 rfl)⟩;have Y0:Hid (Below w0.heap.size w0 w0.drew):=(Below.refl _ _).drew;clear c0 c1 c2 c3 c4 c5 c6;refine wp_region_held_drew (S:=fun w'=>w'.cell? ⟨w.heap.size,3,none⟩=some (.int .i64 n)∧w'.cell? ⟨w.heap.size,4,none⟩=some (.int .i64 e)) (by kernel_rfl) (JS.out _ Y0.out) (fun hHeld=>?_);generalize w0.drew=wd at *;refine wpAnyH_take (i:=0) (v:=.pointer (some ⟨w.heap.size,3,none⟩)) rfl (by kernel_rfl) (by kernel_rfl) (by kernel_rfl) (fun _ _ _ h=>h) (Or.inl ⟨by rfl,by intro w hSw; (try dsimp only at hSw); go_simp⟩) (by assumption) ?_;(try simp only [Act.put,z0q,z1q,z3q,z4q,z5q]);refine wpAnyH_take (i:=1) (v:=.int .i64 n) rfl (by kernel_rfl) (by kernel_rfl) (by kernel_rfl) (fun _ _ _ h=>h) (Or.inl ⟨by rfl,by intro w hSw; (try dsimp only at hSw); go_simp⟩) (by assumption) ?_;(try simp only [Act.put,z0q,z1q,z2q,z3q,z4q,z5q]);refine wpAnyH_take (i:=4) (v:=.pointer (some ⟨w.heap.size,4,none⟩)) rfl (by kernel_rfl) (by kernel_rfl) (by kernel_rfl) (fun _ _ _ h=>h) (Or.inl ⟨by rfl,by intro w hSw; (try dsimp only at hSw); go_simp⟩) (by assumption) ?_;(try simp only [Act.put,z0q,z1q,z2q,z3q,z4q,z5q]);refine wpAnyH_take (i:=5) (v:=.int .i64 e) rfl (by kernel_rfl) (by kernel_rfl) (by kernel_rfl) (fun _ _ _ h=>h) (Or.inl ⟨by rfl,by intro w hSw; (try dsimp only at hSw); go_simp⟩) (by assumption) ?_;(try simp only [Act.put,z0q,z1q,z2q,z3q,z4q,z5q]);refine wpAnyH_ready (rs:=[2]) (by kernel_rfl) (by simp) ?_;refine AllReadyH.cons rfl (fun K hK=>?_) AllReadyH.nil;go_simp
     (with_reducible refine (DN.out wd).mono ?_);rintro x v1 ⟨rfl,hb⟩;(try dsimp only);have Y1:=lh (q0a Y0.out hb);clear hb;(try go_wp2_with fail);refine hK.out _ _ (JS.out _ Y1.out) (fun hHeld2=>?_);clear hK K hHeld;have hHeld:=hHeld2;clear hHeld2;(try simp only [Act.put,z0q,z1q,z2q,z3q,z4q,z5q]);refine wpAnyH_take (i:=3) (v:=.string ⟨I2.toArray⟩) rfl (by kernel_rfl) (by kernel_rfl) (by kernel_rfl) (fun _ _ _ h=>h) (Or.inl ⟨by rfl,by intro w hSw; (try dsimp only at hSw); go_simp; rw [if_neg (by omega),ap1.out]⟩) (by assumption) ?_;(try simp only [Act.put,z0q,z1q,z2q,z3q,z4q,z5q]);refine wpAnyH_ready (rs:=[6]) (by kernel_rfl) (by simp) ?_;refine AllReadyH.cons rfl (fun K hK=>?_) AllReadyH.nil;go_simp
     (with_reducible refine (DE.out v1).mono ?_);rintro x v2 ⟨rfl,hb⟩;(try dsimp only);have Y2:=lh (q0a Y1.out hb);clear hb;(try go_wp2_with fail);refine hK.out _ _ (JS.out _ Y2.out) (fun hHeld2=>?_);clear hK K hHeld;have hHeld:=hHeld2;clear hHeld2;(try simp only [Act.put,z0q,z1q,z2q,z3q,z4q,z5q]);refine wpAnyH_take (i:=7) (v:=.string ⟨S.toArray⟩) rfl (by kernel_rfl) (by kernel_rfl) (by kernel_rfl) (fun _ _ _ h=>h) (Or.inl ⟨by rfl,by intro w hSw; (try dsimp only at hSw); go_simp; rw [if_neg (by omega),ap2.out]⟩) (by assumption) ?_;(try simp only [Act.put,z0q,z1q,z2q,z3q,z4q,z5q]);refine wpAnyH_take (i:=8) (v:=.string ⟨S.toArray⟩) rfl (by kernel_rfl) (by kernel_rfl) (by kernel_rfl) (fun _ _ _ h=>h) (Or.inl ⟨by rfl,by intro w hSw; (try dsimp only at hSw); go_simp⟩) (by assumption) ?_;(try simp only [Act.put,z0q,z1q,z2q,z3q,z4q,z5q]);refine wpAnyH_done (by kernel_rfl) ?_ _;clear hHeld JS;replace B0:=lh (q0a B0.out Y2.out);go_wp2_with fail
     refine (pl.out _).mono ?_;rintro x w3 ⟨rfl,hb⟩;replace B0:=lh (q0a B0.out hb);clear hb;go_wp2
     go_ret
     exact ⟨by rw [hR2.out,← pa.out]; rfl,B0.out⟩
    ·have a2:((kd:Int) == 2)=false:=beq_eq_false_iff_ne.2 (by omega);have a3:((kd:Int) == 3)=false:=beq_eq_false_iff_ne.2 (by omega);have a4:((kd:Int) == 4)=false:=beq_eq_false_iff_ne.2 (by omega);have hR:Hid (RW=[]):=(by unfold Hid; rw [HR.out,if_neg h2,if_neg h3,if_neg h4]);clear HR h2 h3 h4 h5;have hR2:Hid (F=padL [] 20):=(by unfold Hid; rw [HF5.out,hR.out]);have RP:Hid (∀ W,Calls Tryz.prog 156 #[.int .i64 20] W fun e w'=>e=.returned (.string ⟨(List.replicate 20 (32:UInt8)).toArray⟩)∧Below W.heap.size W w'):=fun W=>rspaces_any 20 (by omega) W;have pa:Hid (ByteArray.mk (List.replicate 20 (32:UInt8)).toArray ++ ByteArray.mk #[]=ByteArray.mk (padL [] 20).toArray):=PA.out [];have hln:(List.replicate 20 (32:UInt8)).length=20:=List.length_replicate;clear hR HF5 PA PL RL;generalize List.replicate 20 (32:UInt8)=U at *;go_enter Tryz.func110,Tryz.ntmps110
     go_upto_region 2 with fail
     generalize w.alloc (.cells #[.string ⟨k.toArray⟩,.int .u8 kd,.bool y,.int .i64 n,.int .i64 e,.string ⟨tx.toArray⟩,.string ⟨no.toArray⟩] 31)=w0 at *;have c0:=K0.out.at_ 0 rfl;have c1:=K0.out.at_ 1 rfl;have c2:=K0.out.at_ 2 rfl;have c3:=K0.out.at_ 3 rfl;have c4:=K0.out.at_ 4 rfl;have c5:=K0.out.at_ 5 rfl;have c6:=K0.out.at_ 6 rfl;go_wp2_with fail
     refine (RP.out _).mono ?_;rintro x w3 ⟨rfl,hb⟩;replace B0:=lh (q0a B0.out hb);clear hb;go_wp2
     go_ret
     exact ⟨by rw [hR2.out,← pa.out]; rfl,B0.out⟩
end Go.Proofs.YtcpofeehpijbcaaGreatDoor
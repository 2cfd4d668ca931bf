import Derived.Test.YtgnjhlnolihgcaaGreatMg14
import Derived.Test.YtgnjhlnolihgcaaGreatW19
import Derived.Test.YtgnjhlnolihgcaaGreatMg5
import Derived.Test.YtgnjhlnolihgcaaGreatShelf
import Derived.Test.YtgnjhlnolihgcaaGreatMathZ
set_option maxHeartbeats 2000000
set_option maxRecDepth 100000
namespace Go.Proofs.YtgnjhlnolihgcaaGreat
open Lib renaming hid → lh
open Go.RowKit
attribute [local go_sem ↓] Go.wp_at_zero Go.wp_at_succ
theorem i64_and1 (n:Int):bits .and .i64 n 1=n % 2:=by
 have h1:(BitVec.ofInt 64 1).toNat=2 ^ 1 - 1:=by decide
 have key:(BitVec.ofInt 64 n &&& BitVec.ofInt 64 1).toNat=(n % ((2 ^ 64:Nat):Int)).toNat % 2 ^ 1:=by
  rw [BitVec.toNat_and,BitVec.toNat_ofInt,h1,Nat.and_two_pow_sub_one_eq_mod]
 show IntKind.i64.wrap ((BitVec.ofInt 64 n &&& BitVec.ofInt 64 1).toNat:Nat)=n % 2
 rw [key,IntKind.wrap_i64];omega
theorem wpow_good (n:Bool) (A:Option Addr) (l:List Nat) (c kn:Nat) (w:World) (hs:Sl w A l c) (hbad:badL n l=false) (hk:kn≤1000) :
  Calls Tryz.prog 138 #[.agg #[.bool n,.slice A l.length c],.int .i64 kn] w (WRes (powS n l kn) w):=by
 have Hs:=lh hs;have Hbad:=lh hbad;have hc:=q1s hbad;have Hres:=lh (powS_good hbad hk);obtain ⟨z,hz⟩:∃ z,z=zv n l:=⟨_,rfl⟩;have Hz:=lh hz;rw [← hz] at Hres;rw [Hres.out];obtain ⟨bl,hbl⟩:∃ bl,bl=q0h kn:=⟨_,rfl⟩;have Hlen:Hid (Lib.bitLen (kn:Int).toNat=bl):=by unfold Hid; rw [Int.toNat_natCast,bitLen_eq (by omega),hbl]
 have Hbl:Hid (kn / 2 ^ bl=0):=by
  unfold Hid;rw [hbl];refine Nat.div_eq_of_lt ?_;unfold q0h;split
  ·rename_i h; subst h; simp
  ·exact Nat.lt_log2_self
 have hbl10:bl≤10:=by
  have h1:kn < 2 ^ 10:=(by omega);rw [hbl];unfold q0h;split
  ·omega
  ·rename_i h; exact (Nat.log2_lt h).2 h1
 clear hs hbad hz Hres hbl;have d1:decide ((kn:Int) < 0)=false:=decide_eq_false (by omega);have d2:decide ((1000:Int) < (kn:Int))=false:=decide_eq_false (by omega);go_enter Tryz.func138,Tryz.ntmps138
 go_wp2_with fail
 refine (q0e _ [⟨n,A,l,c⟩] (by simp) _ ?hc).mono ?_
 case hc=>exact Wcs.one ((Hs.out.alloc _).alloc _) (by simp)
 rintro e w1 ⟨rfl,hb⟩;rw [q0u];have K:Hid (Cw w1 w.heap.size n A l.length c):=⟨q0b hb (by go_simp),q0b hb (by go_simp)⟩;have R:Hid (Cw w1 (w.heap.size+1) false none 0 0):=⟨q0b hb (by go_simp),q0b hb (by go_simp)⟩;have F:Hid (Fw w1 (w.heap.size+1)):=⟨(hb.frozen (by simp)).trans (by go_simp),(hb.frozen (by simp)).trans (by go_simp)⟩;have B:Hid (Below w.heap.size w w1):=q0a (blw3 _ _ _ _) hb;have S:Hid (Sl w1 A l c):=(((Hs.out.alloc _).alloc _).alloc _).below hb;clear hb;go_wp2_with fail
 refine (q1k 1 _ (by omega) (by omega)).mono ?_;rintro e w2 ⟨A5,c5,rfl,hs5,hb⟩;have S5:=lh hs5;have K2:=lh (K.out.keep hb);have R2:=lh (R.out.keep hb);have F2:=lh (Fw.keep F.out R.out hb);have B2:=lh (q0a B.out hb);have S2:=lh (S.out.below hb);have hz2:w.heap.size+1 < w2.heap.size:=lt_of_cell R2.out.1;clear hs5 hb K R F B S;go_wp2_with fail
 refine (Tryz.bits_Len (kn:Int) _ (by omega) (by omega)).mono ?_;rw [Hlen.out];rintro e w3 ⟨rfl,rfl⟩;go_wp2
 generalize hg6:w2.heap.size=g6 at *;go_loopw [8,9] (fun i _ wr=>∃ (m:Nat) (A6:Option Addr) (c6:Nat),i=.int .i64 ((m:Int) - 1)∧m≤bl∧fitZ (z ^ (kn / 2 ^ m))∧Cw wr g6 (wOf (z ^ (kn / 2 ^ m))).1 A6 (wOf (z ^ (kn / 2 ^ m))).2.length c6∧Fw wr g6∧Sl wr A6 (wOf (z ^ (kn / 2 ^ m))).2 c6∧Cw wr w.heap.size n A l.length c∧Sl wr A l c∧Cw wr (w.heap.size+1) false none 0 0∧Fw wr (w.heap.size+1)∧Below w.heap.size w wr) (fun i _ _=>(intOf i+1).toNat)
 case atStart=>
  have e0:z ^ (kn / 2 ^ bl)=1:=(by rw [Hbl.out]; exact Int.pow_zero z);refine ⟨bl,A5,c5,rfl,Nat.le_refl _,?_⟩;rw [e0];exact ⟨fit_one,Cw.fresh hg6.symm _ _ _ _ _,Fw.fresh hg6.symm _ _,S5.out.alloc _,Cw.keep K2.out (blw1 _ _),S2.out.alloc _,Cw.keep R2.out (blw1 _ _),Fw.alloc F2.out R2.out _,q0a B2.out (blw1 _ _)⟩
 case round=>
  clear S5 K2 R2 F2 B2 S2;obtain ⟨m,A6,c6,rfl,hm,hfit,k6,f6,s6,k,s,r,f,b⟩:=hrel;have Hfit:=lh hfit;have K6:=lh k6;have F6:=lh f6;have S6:=lh s6;have K:=lh k;have S:=lh s;have R:=lh r;have F:=lh f;have B:=lh b;clear hfit k6 f6 s6 k s r f b
  cases m with
  | zero=>
   have hz6:g6 < wr.heap.size:=lt_of_cell K6.out.1;obtain ⟨q2,q3⟩:=K6.out;obtain ⟨r0,r1⟩:=R.out;obtain ⟨f0,f1⟩:=F.out;have e1:kn / 2 ^ 0=kn:=(by simp);have Hend:Hid (outZ (z ^ kn)=(wOf (z ^ (kn / 2 ^ 0)),0)):=(by unfold Hid; rw [e1]; exact outZ_is (by rw [← e1]; exact Hfit.out));clear e1;generalize wOf (z ^ (kn / 2 ^ 0))=rr at *;go_wp2
   exact bodyPost_ret (v:=.tuple #[.agg #[.bool rr.1,.slice A6 rr.2.length c6],.int .i64 0]) (by simp [results,Tryz.results138,go_sem,r0,r1]) rfl (by rw [Hend.out]; exact q0g (r:=(rr,0)) S6.out ⟨r0,r1⟩ B.out (by omega) _ _)
  | succ m=>
   obtain ⟨y,hy⟩:∃ y,y=z ^ (kn / 2 ^ (m+1)):=⟨_,rfl⟩;have Hmul:Hid (mulS (wOf y).1 (wOf y).2 (wOf y).1 (wOf y).2=outZ (y * y)):=mulS_two (by rw [hy]; exact Hfit.out) (by rw [hy]; exact Hfit.out)
   have Hsq:Hid (fitZ (z ^ kn)→fitZ (y * y)):=fun h=>by
    rw [hy,← Int.pow_add];refine fit_pow ?_ h;have h1:kn / 2 ^ (m+1)=kn / 2 ^ m / 2:=(by rw [Nat.pow_succ,Nat.div_div_eq_div_mul]);have h2:kn / 2 ^ m≤kn:=Nat.div_le_self _ _;rw [h1]; omega
   have Hbit:Hid (y * y * (if kn / 2 ^ m % 2=1 then z else 1)=z ^ (kn / 2 ^ m)):=(by unfold Hid; rw [hy]; exact pow_bit z kn m);have Hle:Hid (kn / 2 ^ m≤kn):=Nat.div_le_self _ _;have hm10:m < 10:=(by omega);have hdp:=div_pow kn m;rw [← hy] at K6 S6 Hfit;clear hy;generalize hQ:kn / 2 ^ m=q at *;have hz6:g6 < wr.heap.size:=lt_of_cell K6.out.1;obtain ⟨q2,q3⟩:=K6.out;by_cases hf:fitZ (y * y)
   ·have Hf:=lh hf;rw [outZ_is hf] at Hmul;clear hf;go_wp2_with fail
    refine (wmul_any _ _ _ _ _ _ _ _ _ S6.out S6.out).mono ?_;rw [Hmul.out];rintro e w3 ⟨A7,c7,rfl,hs7,hb⟩;clear q2 q3 hz6;have S7:=lh hs7;have K63:=lh (K6.out.keep hb);have F63:=lh (Fw.keep F6.out K6.out hb);have K3:=lh (K.out.keep hb);have S3:=lh (S.out.below hb);have F3:=lh (Fw.keep F.out R.out hb);have R3:=lh (R.out.keep hb);have B3:=lh (q0a B.out hb);clear hb hs7 K6 F6 K S F R B S6;obtain ⟨q2,q3⟩:=K63.out;obtain ⟨f0,f1⟩:=F63.out;obtain ⟨q0,q1⟩:=K3.out;by_cases hodd:q % 2=1
    ·have hand:bits .and .i64 (q:Int) 1=1:=(by rw [i64_and1]; omega);have Hbit2:Hid (y * y * z=z ^ q):=(by have h:=Hbit.out; rw [if_pos hodd] at h; exact h);have Hmul2:Hid (mulS (wOf (y * y)).1 (wOf (y * y)).2 n l=outZ (z ^ q)):=(by unfold Hid; rw [mulS_of Hf.out Hbad.out,← Hz.out,Hbit2.out]);by_cases hf2:fitZ (z ^ q)
     ·have Hf2:=lh hf2;rw [outZ_is hf2] at Hmul2;clear hf2 hodd;go_wp2_with fail
      refine (wmul_any _ _ _ _ _ _ _ _ _ (S7.out.setW K63.out.1 K63.out.2 _ _) (S3.out.setW K63.out.1 K63.out.2 _ _)).mono ?_;rw [Hmul2.out];rintro e w4 ⟨A8,c8,rfl,hs8,hb⟩;clear q0 q1 q2 q3 f0 f1;have S8:=lh hs8;have K64:=lh (Cw.keep (Cw.new K63.out) hb);have F64:=lh (Fw.keep (Fw.setW F63.out _ _) (Cw.new K63.out) hb);have K4:=lh (Cw.keep (K3.out.setW (by omega) _ _) hb);have S4:=lh (Sl.below (S3.out.setW K63.out.1 K63.out.2 _ _) hb);have F4:=lh (Fw.keep (Fw.setW F3.out _ _) (R3.out.setW (by omega) _ _) hb);have R4:=lh (Cw.keep (R3.out.setW (by omega) _ _) hb);have B4:=lh (q0a (q0c B3.out (by omega) _ _) hb);clear hb hs8;obtain ⟨q2,q3⟩:=K64.out;obtain ⟨f0,f1⟩:=F64.out;go_wp2
      go_roundw
      case rel=>
       refine ⟨m,A8,c8,by go_num,by omega,?_⟩;rw [hQ];exact ⟨Hf2.out,Cw.new K64.out,Fw.setW F64.out _ _,S8.out.setW K64.out.1 K64.out.2 _ _,K4.out.setW (by omega) _ _,S4.out.setW K64.out.1 K64.out.2 _ _,R4.out.setW (by omega) _ _,Fw.setW F4.out _ _,q0c B4.out (by omega) _ _⟩
      case measure=>simp [intOf] <;> omega
     ·have Hend:Hid (outZ (z ^ kn)=((false,[]),16)):=outZ_not (fun h=>hf2 (fit_pow Hle.out h));rw [outZ_not hf2] at Hmul2;clear hf2 hodd;go_wp2_with fail
      refine (wmul_any _ _ _ _ _ _ _ _ _ (S7.out.setW K63.out.1 K63.out.2 _ _) (S3.out.setW K63.out.1 K63.out.2 _ _)).mono ?_;rw [Hmul2.out];rintro e w4 ⟨A8,c8,rfl,hs8,hb⟩;clear q0 q1 q2 q3 f0 f1;have K64:=lh (Cw.keep (Cw.new K63.out) hb);have F64:=lh (Fw.keep (Fw.setW F63.out _ _) (Cw.new K63.out) hb);have F4:=lh (Fw.keep (Fw.setW F3.out _ _) (R3.out.setW (by omega) _ _) hb);have R4:=lh (Cw.keep (R3.out.setW (by omega) _ _) hb);have B4:=lh (q0a (q0c B3.out (by omega) _ _) hb);clear hb hs8;obtain ⟨q2,q3⟩:=K64.out;obtain ⟨f0,f1⟩:=F64.out;obtain ⟨r0,r1⟩:=R4.out;obtain ⟨f2,f3⟩:=F4.out;go_wp2
      obtain ⟨y0,y1⟩:Cw ((((w4.setCell ⟨g6,0,none⟩ (.bool false)).setCell ⟨g6,1,none⟩ (.slice A8 0 c8)).setCell ⟨w.heap.size+1,0,none⟩ (.bool false)).setCell ⟨w.heap.size+1,1,none⟩ (.slice none 0 0)) (w.heap.size+1) false none 0 0:=Cw.new (R4.out.setW (by omega) _ _);exact bodyPost_ret (v:=.tuple #[.agg #[.bool false,.slice none 0 0],.int .i64 16]) (by simp [results,Tryz.results138,go_sem,y0,y1]) rfl (by rw [Hend.out]; exact ⟨none,0,rfl,Sl.nil _ _ _,q0c (q0c B4.out (by omega) _ _) (by omega) _ _⟩)
    ·have hand:bits .and .i64 (q:Int) 1=0:=(by rw [i64_and1]; omega);have Hbit2:Hid (y * y=z ^ q):=(by have h:=Hbit.out; rw [if_neg hodd,Int.mul_one] at h; exact h);clear hodd;rw [Hbit2.out] at Hf S7;go_wp2
     rw [Hbit2.out];go_roundw
     case rel=>
      refine ⟨m,A7,c7,by go_num,by omega,?_⟩;rw [hQ];exact ⟨Hf.out,Cw.new K63.out,Fw.setW F63.out _ _,S7.out.setW K63.out.1 K63.out.2 _ _,K3.out.setW (by omega) _ _,S3.out.setW K63.out.1 K63.out.2 _ _,R3.out.setW (by omega) _ _,Fw.setW F3.out _ _,q0c B3.out (by omega) _ _⟩
     case measure=>simp [intOf] <;> omega
   ·have Hend:Hid (outZ (z ^ kn)=((false,[]),16)):=outZ_not (fun h=>hf (Hsq.out h));rw [outZ_not hf] at Hmul;clear hf;go_wp2_with fail
    refine (wmul_any _ _ _ _ _ _ _ _ _ S6.out S6.out).mono ?_;rw [Hmul.out];rintro e w3 ⟨A7,c7,rfl,hs7,hb⟩;clear q2 q3 hz6;have K63:=lh (K6.out.keep hb);have F63:=lh (Fw.keep F6.out K6.out hb);have F3:=lh (Fw.keep F.out R.out hb);have R3:=lh (R.out.keep hb);have B3:=lh (q0a B.out hb);clear hb hs7 K6 F6 K S F R B S6;obtain ⟨q2,q3⟩:=K63.out;obtain ⟨f0,f1⟩:=F63.out;obtain ⟨r0,r1⟩:=R3.out;obtain ⟨f2,f3⟩:=F3.out;go_wp2
    obtain ⟨y0,y1⟩:Cw ((((w3.setCell ⟨g6,0,none⟩ (.bool false)).setCell ⟨g6,1,none⟩ (.slice A7 0 c7)).setCell ⟨w.heap.size+1,0,none⟩ (.bool false)).setCell ⟨w.heap.size+1,1,none⟩ (.slice none 0 0)) (w.heap.size+1) false none 0 0:=Cw.new (R3.out.setW (by omega) _ _);exact bodyPost_ret (v:=.tuple #[.agg #[.bool false,.slice none 0 0],.int .i64 16]) (by simp [results,Tryz.results138,go_sem,y0,y1]) rfl (by rw [Hend.out]; exact ⟨none,0,rfl,Sl.nil _ _ _,q0c (q0c B3.out (by omega) _ _) (by omega) _ _⟩)
theorem wpow_arg (n:Bool) (A:Option Addr) (l:List Nat) (c:Nat) (k:Int) (w:World) (hs:Sl w A l c) (hbad:badL n l=false) (hk:k < 0∨1000 < k) :
  Calls Tryz.prog 138 #[.agg #[.bool n,.slice A l.length c],.int .i64 k] w (WRes (powS n l k) w):=by
 have Hs:=lh hs;rw [powS_arg hbad hk];have hc:=q1s hbad;clear hs hbad;by_cases h1:k < 0
 ·have d1:decide (k < 0)=true:=decide_eq_true h1;go_enter Tryz.func138,Tryz.ntmps138
  go_wp2_with fail
  refine (q0e _ [⟨n,A,l,c⟩] (by simp) _ ?hc).mono ?_
  case hc=>exact Wcs.one ((Hs.out.alloc _).alloc _) (by simp)
  rintro e w1 ⟨rfl,hb⟩;rw [q0u];have K:Hid (Cw w1 w.heap.size n A l.length c):=⟨q0b hb (by go_simp),q0b hb (by go_simp)⟩;have R:Hid (Cw w1 (w.heap.size+1) false none 0 0):=⟨q0b hb (by go_simp),q0b hb (by go_simp)⟩;have F:Hid (Fw w1 (w.heap.size+1)):=⟨(hb.frozen (by simp)).trans (by go_simp),(hb.frozen (by simp)).trans (by go_simp)⟩;have B:Hid (Below w.heap.size w w1):=q0a (blw3 _ _ _ _) hb;have S:Hid (Sl w1 A l c):=(((Hs.out.alloc _).alloc _).alloc _).below hb;clear hb;obtain ⟨f0,f1⟩:=F.out;obtain ⟨r0,r1⟩:=R.out;go_wp2
  exact bodyPost_ret (v:=.tuple #[.agg #[.bool false,.slice none 0 0],.int .i64 2]) (by simp [results,Tryz.results138,go_sem,r0,r1]) rfl (q0g (r:=((false,[]),2)) (Sl.nil _ none 0) ⟨r0,r1⟩ B.out (by omega) _ _)
 ·have d1:decide (k < 0)=false:=decide_eq_false h1;have d2:decide (1000 < k)=true:=decide_eq_true (by omega);go_enter Tryz.func138,Tryz.ntmps138
  go_wp2_with fail
  refine (q0e _ [⟨n,A,l,c⟩] (by simp) _ ?hc).mono ?_
  case hc=>exact Wcs.one ((Hs.out.alloc _).alloc _) (by simp)
  rintro e w1 ⟨rfl,hb⟩;rw [q0u];have K:Hid (Cw w1 w.heap.size n A l.length c):=⟨q0b hb (by go_simp),q0b hb (by go_simp)⟩;have R:Hid (Cw w1 (w.heap.size+1) false none 0 0):=⟨q0b hb (by go_simp),q0b hb (by go_simp)⟩;have F:Hid (Fw w1 (w.heap.size+1)):=⟨(hb.frozen (by simp)).trans (by go_simp),(hb.frozen (by simp)).trans (by go_simp)⟩;have B:Hid (Below w.heap.size w w1):=q0a (blw3 _ _ _ _) hb;have S:Hid (Sl w1 A l c):=(((Hs.out.alloc _).alloc _).alloc _).below hb;clear hb;obtain ⟨f0,f1⟩:=F.out;obtain ⟨r0,r1⟩:=R.out;go_wp2
  exact bodyPost_ret (v:=.tuple #[.agg #[.bool false,.slice none 0 0],.int .i64 2]) (by simp [results,Tryz.results138,go_sem,r0,r1]) rfl (q0g (r:=((false,[]),2)) (Sl.nil _ none 0) ⟨r0,r1⟩ B.out (by omega) _ _)
theorem wpow_any (n:Bool) (A:Option Addr) (l:List Nat) (c:Nat) (k:Int) (w:World) (hs:Sl w A l c) :
  Calls Tryz.prog 138 #[.agg #[.bool n,.slice A l.length c],.int .i64 k] w (WRes (powS n l k) w):=by
 cases hbad:badL n l with
 | false=>
  by_cases hk:k < 0∨1000 < k
  ·exact wpow_arg n A l c k w hs hbad hk
  ·obtain ⟨kn,rfl⟩:=Int.eq_ofNat_of_zero_le (show 0≤k by omega);exact wpow_good n A l c kn w hs hbad (by omega)
 | true=>
  have Hs:=lh hs;have hr:powS n l k=((false,[]),8):=(by unfold powS; rw [hbad,if_pos rfl]);have hc:=chk_bad hbad;rw [hr];clear hr hbad hs;go_enter Tryz.func138,Tryz.ntmps138
  go_wp2_with fail
  refine (q0e _ [⟨n,A,l,c⟩] (by simp) _ ?hc).mono ?_
  case hc=>exact Wcs.one ((Hs.out.alloc _).alloc _) (by simp)
  rintro e w1 ⟨rfl,hb⟩;rw [q0u];have K:Hid (Cw w1 w.heap.size n A l.length c):=⟨q0b hb (by go_simp),q0b hb (by go_simp)⟩;have R:Hid (Cw w1 (w.heap.size+1) false none 0 0):=⟨q0b hb (by go_simp),q0b hb (by go_simp)⟩;have F:Hid (Fw w1 (w.heap.size+1)):=⟨(hb.frozen (by simp)).trans (by go_simp),(hb.frozen (by simp)).trans (by go_simp)⟩;have B:Hid (Below w.heap.size w w1):=q0a (blw3 _ _ _ _) hb;have S:Hid (Sl w1 A l c):=(((Hs.out.alloc _).alloc _).alloc _).below hb;clear hb;obtain ⟨f0,f1⟩:=F.out;obtain ⟨r0,r1⟩:=R.out;go_wp2
  exact bodyPost_ret (v:=.tuple #[.agg #[.bool false,.slice none 0 0],.int .i64 8]) (by simp [results,Tryz.results138,go_sem,r0,r1]) rfl (q0g (r:=((false,[]),8)) (Sl.nil _ none 0) ⟨r0,r1⟩ B.out (by omega) _ _)
end Go.Proofs.YtgnjhlnolihgcaaGreat
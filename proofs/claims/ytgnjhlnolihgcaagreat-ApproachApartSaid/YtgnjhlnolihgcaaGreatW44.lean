import Derived.Test.YtgnjhlnolihgcaaGreatMg14
import Derived.Test.YtgnjhlnolihgcaaGreatMg6
import Derived.Test.YtgnjhlnolihgcaaGreatMathZ
import Derived.Deep.LoopGhost
set_option maxHeartbeats 2000000
set_option maxRecDepth 100000
namespace Go.Proofs.YtgnjhlnolihgcaaGreat
open Lib renaming hid → lh
open Go.RowKit
attribute [local go_sem ↓] Go.wp_at_zero Go.wp_at_succ
theorem wsqrt_pos (A:Option Addr) (l:List Nat) (c:Nat) (w:World) (hs:Sl w A l c) (hbad:badL false l=false) (hl0:0 < l.length) :
  Calls Tryz.prog 140 #[.agg #[.bool false,.slice A l.length c]] w (WRes (sqrtS false l) w):=by
 have Hs:=lh hs;obtain ⟨k1,m1,p1⟩:=q0j hs.lim hbad;have Hk1:=lh k1;have hc:=q1s hbad;have hav:0 < val l:=q0o k1 hl0;have Hres:Hid (sqrtS false l=outN false (isq (val l))):=(by unfold Hid sqrtS; rw [hbad,if_neg (by simp),if_neg (by simp)]);obtain ⟨bn,hbn⟩:∃ bn,bn=q0h (val l):=⟨_,rfl⟩;have Hbits:Hid (bitsS false l=((bn:Int),0)):=(by unfold Hid bitsS; rw [hbad,if_neg (by simp),hbn]);have hlt:val l < 2 ^ bn:=(by rw [hbn]; unfold q0h; rw [if_neg (by omega)]; exact Nat.lt_log2_self);have hbpos:0 < bn:=by rw [hbn]; unfold q0h; rw [if_neg (by omega)]; omega
 have hbmax:bn≤131072:=by
  have h1:val l < 2 ^ (32 * l.length):=by
   have:=val_lt k1.1;rw [show (4294967296:Nat)=2 ^ 32 by rfl,← Nat.pow_mul] at this;exact this
  have h2:bn≤32 * l.length:=by
   rw [hbn]; unfold q0h; rw [if_neg (by omega)];exact (Nat.log2_lt (by omega)).2 h1
  omega
 obtain ⟨k0,hk0⟩:∃ k0,k0=(bn+1) / 2:=⟨_,rfl⟩;have Hab:Hid (val l < (2 ^ k0+1) * (2 ^ k0+1)):=(by unfold Hid; rw [hk0]; exact newton_start hlt);have hk0z:((bn:Int)+1) / 2=(k0:Int):=(by omega);have hk0t:((bn:Int)+1).tdiv 2=(k0:Int):=(by rw [Int.tdiv_eq_ediv_of_nonneg (by omega)]; exact hk0z);have hk0m:k0≤65537:=(by omega);rw [Hres.out];clear hs hbad k1 p1 hlt hbn hk0 Hres;go_enter Tryz.func140,Tryz.ntmps140
 go_wp2_with fail
 refine (q0e _ [⟨false,A,l,c⟩] (by simp) _ ?hc).mono ?_
 case hc=>exact Wcs.one ((Hs.out.alloc _).alloc _) (by simp)
 rintro e w1 ⟨rfl,hb⟩;rw [q0u];have K:Hid (Cw w1 w.heap.size false A l.length c):=⟨q0b hb (by go_simp),q0b hb (by go_simp)⟩;have R:Hid (Cw w1 (w.heap.size+1) false none 0 0):=⟨q0b hb (by go_simp),q0b hb (by go_simp)⟩;have F:Hid (Fw w1 (w.heap.size+1)):=⟨(hb.frozen (by simp)).trans (by go_simp),(hb.frozen (by simp)).trans (by go_simp)⟩;have B:Hid (Below w.heap.size w w1):=q0a (blw3 _ _ _ _) hb;have S:Hid (Sl w1 A l c):=(((Hs.out.alloc _).alloc _).alloc _).below hb;clear hb;obtain ⟨q0,q1⟩:=K.out;go_wp2_with fail
 refine (bits_any _ _ _ _ _ S.out).mono ?_;rw [Hbits.out];rintro e w2 ⟨rfl,hb⟩;clear q0 q1;replace F:=kFw F R hb;replace R:=kW R hb;replace K:=kW K hb;replace S:=kS S hb;replace B:=kB B hb;clear hb;go_wp2_with fail
 refine (left_any (some ⟨w2.heap.size,0,none⟩) [1] 1 k0 _ ⟨Rd.one _ _ _,lim_one (by omega),Nat.le_refl _,by simp⟩ (by simp) (by omega)).mono ?_;rintro e w3 ⟨A5,c5,r5,rfl,hown,hl5,hv5,hn5,hb⟩;have hr5:r5.length≤3000:=(by rw [hn5]; simp; omega);have S5:=lh (hown.sl hl5 (by omega));have V5:Hid (val r5=2 ^ k0):=(by unfold Hid; rw [hv5]; simp [val]);clear hown hl5 hv5 hn5;replace F:Hid (Fw w3 (w.heap.size+1)):=Fw.keep (Fw.alloc F.out R.out _) (Cw.keep R.out (blw1 _ _)) hb;replace R:=kW1 R hb;replace K:=kW1 K hb;replace S:=kS1 S hb;replace B:=kB1 B hb;clear hb;have htr:=q1o A5 r5 c5 w3 S5.out;rw [V5.out] at htr;have T5:Hid (Sl w3 A5 (limbs (2 ^ k0)) c5):=by have h:=S5.out.trim; rw [V5.out] at h; exact h
 have hlen0:(limbs (2 ^ k0)).length≤3000:=by
  have h:=trimN_le r5 r5.length;rw [trim_len S5.out.lim,V5.out] at h;omega
 clear hr5 S5 V5;go_wp2_with fail
 refine htr.mono ?_;rintro e w4 ⟨rfl,rfl⟩;clear htr;have hpos0:0 < 2 ^ k0:=Nat.two_pow_pos _;generalize 2 ^ k0=rn0 at *;go_wp2
 go_loopg [7,8,9,10,11] rn0 (fun g s7 _ _ _ _ wr=>∃ (rn:Nat) (A6:Option Addr) (c6:Nat),g=rn∧s7=.slice A6 (limbs rn).length c6∧0 < rn∧val l < (rn+1) * (rn+1)∧(limbs rn).length≤3000∧Sl wr A6 (limbs rn) c6∧Cw wr w.heap.size false A l.length c∧Sl wr A l c∧Cw wr (w.heap.size+1) false none 0 0∧Fw wr (w.heap.size+1)∧Below w.heap.size w wr)
 case atStart=>exact ⟨rn0,A5,c5,rfl,rfl,hpos0,Hab.out,hlen0,T5.out,K.out,S.out,R.out,F.out,B.out⟩
 case round=>
  clear T5 K S R F B hpos0 hlen0;obtain ⟨rn,A6,c6,hgk,rfl,hpos,hab,hlen,s6,k,s,r,f,b⟩:=hrel;have Hab2:=lh hab;have S6:=lh s6;have K:=lh k;have S:=lh s;have R:=lh r;have F:=lh f;have B:=lh b;have hne:limbs rn≠[]:=fun h=>by have h2:=limbs_eq_nil.1 h; omega
  have hdiv:=divide_any A A6 l (limbs rn) c c6 wr S.out S6.out Hk1.out (q0i _) hne (by omega);clear hab s6 k s r f b hne;rw [q0f] at hdiv;have hql:(limbs (val l / rn)).length≤4096:=Nat.le_trans (q0v (q0i _) Hk1.out (by rw [q0f]; exact Nat.div_le_self _ _)) m1;have Hnab:=lh (newton_above (a:=val l) hpos);have Hnpos:=lh (newton_pos (a:=val l) hav hpos);have Hnend:Hid (rn≤(val l / rn+rn) / 2→isq (val l)=rn):=fun h=>newton_end hpos Hab2.out h;have Hvq:=lh (q0f (val l / rn));have Hvr:=lh (q0f rn);obtain ⟨q0,q1⟩:=K.out;go_wp2_with fail
  refine hdiv.mono ?_;rintro e w5 ⟨A7,c7,A8,c8,rfl,hs7,hs8,hb⟩;clear q0 q1;have S7:=lh hs7;clear hs7 hs8 hdiv;replace S6:Hid (Sl w5 A6 (limbs rn) c6):=S6.out.below hb;replace F:=kFw F R hb;replace R:=kW R hb;replace K:=kW K hb;replace S:=kS S hb;replace B:=kB B hb;clear hb;generalize limbs (val l / rn)=lq at *;go_wp2_with fail
  refine (plus_any A7 A6 lq (limbs rn) c7 c6 w5 S7.out S6.out (by omega) (by omega)).mono ?_;rintro e w6 ⟨A9,c9,x9,rfl,hs9,hv9,hn9,hb⟩;have S9:=lh hs9;have V9:Hid (val x9=val l / rn+rn):=(by unfold Hid; rw [hv9,Hvq.out,Hvr.out]);have hn9':x9.length≤100000:=(by omega);clear hs9 hv9 hn9;replace S6:Hid (Sl w6 A6 (limbs rn) c6):=S6.out.below hb;replace F:=kFw F R hb;replace R:=kW R hb;replace K:=kW K hb;replace S:=kS S hb;replace B:=kB B hb;clear hb;go_wp2_with fail
  refine (right_any A9 x9 c9 1 w6 S9.out (by omega) (by omega)).mono ?_;rintro e w7 ⟨A10,c10,o10,rfl,hs10,hv10,hn10,hb⟩;have S10:=lh hs10;have V10:Hid (val o10=(val l / rn+rn) / 2):=(by unfold Hid; rw [hv10,V9.out]);clear hs10 hv10 hn10 hn9' S7 S9 V9;replace S6:Hid (Sl w7 A6 (limbs rn) c6):=S6.out.below hb;replace F:=kFw F R hb;replace R:=kW R hb;replace K:=kW K hb;replace S:=kS S hb;replace B:=kB B hb;clear hb;generalize (val l / rn+rn) / 2=nx at *;have htr:=q1o A10 o10 c10 w7 S10.out;rw [V10.out] at htr;have T10:Hid (Sl w7 A10 (limbs nx) c10):=(by have h:=S10.out.trim; rw [V10.out] at h; exact h);clear S10 V10;go_wp2_with fail
  refine htr.mono ?_;rintro e w8 ⟨rfl,rfl⟩;clear htr;go_wp2_with fail
  refine (q1c A10 A6 (limbs nx) (limbs rn) c10 c6 w7 T10.out S6.out).mono ?_;rintro e w9 ⟨rfl,hb⟩;replace S6:Hid (Sl w9 A6 (limbs rn) c6):=S6.out.below hb;replace T10:Hid (Sl w9 A10 (limbs nx) c10):=T10.out.below hb;replace F:=kFw F R hb;replace R:=kW R hb;replace K:=kW K hb;replace S:=kS S hb;replace B:=kB B hb;clear hb;by_cases hge:rn≤nx
  ·have hcmp:0≤cmpL (limbs nx) (limbs rn):=cmpL_ge (q0i _) (q0i _) (by rw [q0f,q0f]; exact hge);have Hroot:Hid (outN false (val (limbs rn))=outN false (isq (val l))):=(by unfold Hid; rw [q0f,Hnend.out hge]);generalize cmpL (limbs nx) (limbs rn)=zc at *;go_wp2_with fail
   refine (q1b false A6 (limbs rn) c6 _ S6.out).mono ?_;rw [Hroot.out];rintro e w10 ⟨A11,c11,rfl,hs11,hb⟩;obtain ⟨f0,f1⟩:=Fw.keep F.out R.out hb;obtain ⟨r0,r1⟩:=Cw.keep R.out hb;have B2:=lh (q0a B.out hb);have S11:=lh hs11;clear hb hs11;generalize outN false (isq (val l))=r at *;go_wp2
   exact bodyPost_ret (v:=.tuple #[.agg #[.bool r.1.1,.slice A11 r.1.2.length c11],.int .i64 r.2]) (by simp [results,Tryz.results140,go_sem,r0,r1]) rfl (q0g S11.out ⟨r0,r1⟩ B2.out (by omega) _ _)
  ·have Hcmp:=lh (cmpL_lt (q0i nx) (q0i rn) (by rw [q0f,q0f]; omega));have hlen2:(limbs nx).length≤3000:=Nat.le_trans (q0v (q0i _) (q0i rn) (by rw [q0f,q0f]; omega)) hlen;rw [Hcmp.out];go_wp2
   go_roundg nx
   case measure=>omega
   case rel=>exact ⟨nx,A10,c10,rfl,rfl,Hnpos.out,Hnab.out,hlen2,T10.out,K.out,S.out,R.out,F.out,B.out⟩
theorem wsqrt_zero (A:Option Addr) (l:List Nat) (c:Nat) (w:World) (hs:Sl w A l c) (hbad:badL false l=false) (hl0:l.length=0) :
  Calls Tryz.prog 140 #[.agg #[.bool false,.slice A l.length c]] w (WRes (sqrtS false l) w):=by
 have Hs:=lh hs;have hc:=q1s hbad;have hv0:val l=0:=(by rw [List.eq_nil_of_length_eq_zero hl0]; rfl);have Hres:Hid (sqrtS false l=((false,[]),0)):=(by unfold Hid sqrtS; rw [hbad,if_neg (by simp),if_neg (by simp),hv0]; rfl);have Hbits:Hid (bitsS false l=(0,0)):=(by unfold Hid bitsS; rw [hbad,if_neg (by simp),hv0]; rfl);rw [Hres.out];clear hs hbad Hres hv0 hl0;go_enter Tryz.func140,Tryz.ntmps140
 go_wp2_with fail
 refine (q0e _ [⟨false,A,l,c⟩] (by simp) _ ?hc).mono ?_
 case hc=>exact Wcs.one ((Hs.out.alloc _).alloc _) (by simp)
 rintro e w1 ⟨rfl,hb⟩;rw [q0u];have K:Hid (Cw w1 w.heap.size false A l.length c):=⟨q0b hb (by go_simp),q0b hb (by go_simp)⟩;have R:Hid (Cw w1 (w.heap.size+1) false none 0 0):=⟨q0b hb (by go_simp),q0b hb (by go_simp)⟩;have F:Hid (Fw w1 (w.heap.size+1)):=⟨(hb.frozen (by simp)).trans (by go_simp),(hb.frozen (by simp)).trans (by go_simp)⟩;have B:Hid (Below w.heap.size w w1):=q0a (blw3 _ _ _ _) hb;have S:Hid (Sl w1 A l c):=(((Hs.out.alloc _).alloc _).alloc _).below hb;clear hb;obtain ⟨q0,q1⟩:=K.out;go_wp2_with fail
 refine (bits_any _ _ _ _ _ S.out).mono ?_;rw [Hbits.out];rintro e w2 ⟨rfl,hb⟩;clear q0 q1;replace F:=kFw F R hb;replace R:=kW R hb;replace K:=kW K hb;replace S:=kS S hb;replace B:=kB B hb;clear hb;go_wp2_with fail
 refine (left_any (some ⟨w2.heap.size,0,none⟩) [1] 1 0 _ ⟨Rd.one _ _ _,lim_one (by omega),Nat.le_refl _,by simp⟩ (by simp) (by omega)).mono ?_;rintro e w3 ⟨A5,c5,r5,rfl,hown,hl5,hv5,hn5,hb⟩;have S5:=lh (hown.sl hl5 (by rw [hn5]; simp));clear hown hl5 hv5 hn5;replace F:Hid (Fw w3 (w.heap.size+1)):=Fw.keep (Fw.alloc F.out R.out _) (Cw.keep R.out (blw1 _ _)) hb;replace R:=kW1 R hb;replace K:=kW1 K hb;replace S:=kS1 S hb;replace B:=kB1 B hb;clear hb;go_wp2_with fail
 refine (q1o A5 r5 c5 w3 S5.out).mono ?_;rintro e w4 ⟨rfl,rfl⟩;go_wp2
 go_loopg [7,8,9,10,11] 0 (fun _ _ _ _ _ _ wr=>w3=wr)
 case atStart=>rfl
 case round=>
  obtain rfl:=hrel;obtain ⟨f0,f1⟩:=F.out;obtain ⟨r0,r1⟩:=R.out;go_wp2
  exact bodyPost_ret (v:=.tuple #[.agg #[.bool false,.slice none 0 0],.int .i64 0]) (by simp [results,Tryz.results140,go_sem,r0,r1]) rfl (q0g (r:=((false,[]),0)) (Sl.nil _ none 0) ⟨r0,r1⟩ B.out (by omega) _ _)
theorem wsqrt_any (n:Bool) (A:Option Addr) (l:List Nat) (c:Nat) (w:World) (hs:Sl w A l c) :
  Calls Tryz.prog 140 #[.agg #[.bool n,.slice A l.length c]] w (WRes (sqrtS n l) w):=by
 cases hbad:badL n l with
 | false=>
  cases n with
  | false=>
   by_cases hl0:0 < l.length
   ·exact wsqrt_pos A l c w hs hbad hl0
   ·exact wsqrt_zero A l c w hs hbad (by omega)
  | true=>
   have Hs:=lh hs;have hr:sqrtS true l=((false,[]),2):=(by unfold sqrtS; rw [hbad,if_neg (by simp),if_pos rfl]);have hc:=q1s hbad;rw [hr];clear hr hbad hs;go_enter Tryz.func140,Tryz.ntmps140
   go_wp2_with fail
   refine (q0e _ [⟨true,A,l,c⟩] (by simp) _ ?hc).mono ?_
   case hc=>exact Wcs.one ((Hs.out.alloc _).alloc _) (by simp)
   rintro e w1 ⟨rfl,hb⟩;rw [q0u];have K:Hid (Cw w1 w.heap.size true A l.length c):=⟨q0b hb (by go_simp),q0b hb (by go_simp)⟩;have R:Hid (Cw w1 (w.heap.size+1) false none 0 0):=⟨q0b hb (by go_simp),q0b hb (by go_simp)⟩;have F:Hid (Fw w1 (w.heap.size+1)):=⟨(hb.frozen (by simp)).trans (by go_simp),(hb.frozen (by simp)).trans (by go_simp)⟩;have B:Hid (Below w.heap.size w w1):=q0a (blw3 _ _ _ _) hb;have S:Hid (Sl w1 A l c):=(((Hs.out.alloc _).alloc _).alloc _).below hb;clear hb;obtain ⟨q0,q1⟩:=K.out;obtain ⟨f0,f1⟩:=F.out;obtain ⟨r0,r1⟩:=R.out;go_wp2
   exact bodyPost_ret (v:=.tuple #[.agg #[.bool false,.slice none 0 0],.int .i64 2]) (by simp [results,Tryz.results140,go_sem,r0,r1]) rfl (q0g (r:=((false,[]),2)) (Sl.nil _ none 0) ⟨r0,r1⟩ B.out (by omega) _ _)
 | true=>
  have Hs:=lh hs;have hr:sqrtS n l=((false,[]),8):=(by unfold sqrtS; rw [hbad,if_pos rfl]);have hc:=chk_bad hbad;rw [hr];clear hr hbad hs;go_enter Tryz.func140,Tryz.ntmps140
  go_wp2_with fail
  refine (q0e _ [⟨n,A,l,c⟩] (by simp) _ ?hc).mono ?_
  case hc=>exact Wcs.one ((Hs.out.alloc _).alloc _) (by simp)
  rintro e w1 ⟨rfl,hb⟩;rw [q0u];have K:Hid (Cw w1 w.heap.size n A l.length c):=⟨q0b hb (by go_simp),q0b hb (by go_simp)⟩;have R:Hid (Cw w1 (w.heap.size+1) false none 0 0):=⟨q0b hb (by go_simp),q0b hb (by go_simp)⟩;have F:Hid (Fw w1 (w.heap.size+1)):=⟨(hb.frozen (by simp)).trans (by go_simp),(hb.frozen (by simp)).trans (by go_simp)⟩;have B:Hid (Below w.heap.size w w1):=q0a (blw3 _ _ _ _) hb;have S:Hid (Sl w1 A l c):=(((Hs.out.alloc _).alloc _).alloc _).below hb;clear hb;obtain ⟨f0,f1⟩:=F.out;obtain ⟨r0,r1⟩:=R.out;go_wp2
  exact bodyPost_ret (v:=.tuple #[.agg #[.bool false,.slice none 0 0],.int .i64 8]) (by simp [results,Tryz.results140,go_sem,r0,r1]) rfl (q0g (r:=((false,[]),8)) (Sl.nil _ none 0) ⟨r0,r1⟩ B.out (by omega) _ _)
end Go.Proofs.YtgnjhlnolihgcaaGreat
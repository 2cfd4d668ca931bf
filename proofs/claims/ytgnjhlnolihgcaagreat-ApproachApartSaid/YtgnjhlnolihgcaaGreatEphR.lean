import Derived.Test.YtgnjhlnolihgcaaGreatMg14
import Derived.Test.YtgnjhlnolihgcaaGreatMg10
import Derived.Deep.CutRange
set_option maxHeartbeats 8000000
set_option maxRecDepth 100000
namespace Go.Proofs.YtgnjhlnolihgcaaGreat
open Lib renaming hid → lh
open Go.RowKit
attribute [local go_sem ↓] Go.wp_at_zero Go.wp_at_succ
def SG.Ad (s:SG) (k:Nat):Option Addr:=if k=0 then s.A0 else if k=1 then s.A1 else s.A2
def SG.cd (s:SG) (k:Nat):Nat:=if k=0 then s.c0 else if k=1 then s.c1 else s.c2
theorem SlS.atC {w:World} {B:Nat} {A:Option Addr} {ss:List SG} {c k:Nat} (h:SlS w B A ss c) (hk:k < ss.length) :
  ∃ b o,A=some ⟨b,o,none⟩∧b < B∧(∀ j,j < 3→w.cell? ⟨b,o+k * 5+2+j,none⟩=some (.slice ((ss[k]'hk).Ad j) ((ss[k]'hk).l j).length ((ss[k]'hk).cd j))):=by
 obtain ⟨b,o,e,hb,q0,q1,q2,q3,q4,-⟩:=h.at_ hk;refine ⟨b,o,e,hb,fun j hj=>?_⟩;have hj':j=0∨j=1∨j=2:=(by omega);rcases hj' with rfl | rfl | rfl
 ·exact q2
 ·exact q3
 ·exact q4
theorem SlS.sli {w:World} {B:Nat} {A:Option Addr} {ss:List SG} {c k:Nat} (h:SlS w B A ss c) (hk:k < ss.length) (j:Nat):SlI w B ((ss[k]'hk).Ad j) ((ss[k]'hk).l j) ((ss[k]'hk).cd j):=by
 have:=h.all _ (List.getElem_mem hk);unfold SG.Ad SG.l SG.cd;split
 ·exact this.i0
 ·split
  ·exact this.i1
  ·exact this.i2
theorem grS_l {s:SG} (h:∀ j,j < 3→grL (s.l j).length 6 16 30=false):grS s=false:=by
 have a:=h 0 (by omega);have b:=h 1 (by omega);have c:=h 2 (by omega);unfold SG.l at a b c;simp at a b c;unfold grS;rw [a,b,c]; rfl
theorem grS_bad {s:SG} {j:Nat} (h:grL (s.l j).length 6 16 30=true):grS s=true:=by
 unfold SG.l at h;unfold grS;split at h
 ·rw [h]; simp
 ·split at h
  ·rw [h]; simp
  ·rw [h]; simp
theorem any_mem {α:Type} {p:α→Bool} {l:List α} {x:α} (hx:x∈l) (h:p x=true):l.any p=true:=List.any_eq_true.2 ⟨x,hx,h⟩
theorem any_none {α:Type} {p:α→Bool} {l:List α} (h:∀ x∈l,p x=false):l.any p=false:=by rw [List.any_eq_false]; intro x hx; rw [h x hx]; decide
theorem grE_bad {bs:List BG} {b:BG} (hb:b∈bs) (h:grBd b=true):grE bs=true:=by unfold grE; rw [any_mem hb h,Bool.or_true]
theorem grE_len {bs:List BG} (h:grL bs.length 4 12 20=true):grE bs=true:=by unfold grE; rw [h]; rfl
theorem grE_ok {bs:List BG} (h:grL bs.length 4 12 20=false) (h2:∀ b∈bs,grBd b=false):grE bs=false:=by unfold grE; rw [h,any_none h2]; rfl
theorem grB_head {b:BG} (h:(decide (200 < b.nm.length) || grL b.ss.length 4 100 110)=true):grBd b=true:=by unfold grBd; rw [h]; rfl
theorem grB_seg {b:BG} {s:SG} (hs:s∈b.ss) (h:grS s=true):grBd b=true:=by unfold grBd; rw [any_mem hs h,Bool.or_true]
theorem grB_ok {b:BG} (h:(decide (200 < b.nm.length) || grL b.ss.length 4 100 110)=false) (h2:∀ s∈b.ss,grS s=false):grBd b=false:=by unfold grBd; rw [h,any_none h2]; rfl
theorem below3 {P:Nat→Prop} {k:Nat} (h:∀ j,j < k→P j) (h2:P k):∀ j,j < k+1→P j:=fun j hj=>by
 rcases Nat.lt_succ_iff_lt_or_eq.1 hj with h3 | rfl
 ·exact h j h3
 ·exact h2
theorem rgreat_any (bs:List BG) (A:Option Addr) (c B:Nat) (w:World) (hs:SlB w B A bs c) :
  Calls Tryz.prog 9 #[.agg #[.slice A bs.length c]] w fun e w'=>e=.returned (.bool (grE bs))∧Below w.heap.size w w':=by
 have hm:=hs.len;have S:=lh hs;have B0:Hid (Below w.heap.size w (w.alloc (.cells #[.slice A bs.length c] 24))):=blw1 _ _;have K0:Hid (BlkV (w.alloc (.cells #[.slice A bs.length c] 24)) w.heap.size 24 #[.slice A bs.length c]):=BlkV.fresh rfl _ _;clear hs;go_enter Tryz.func9,Tryz.ntmps9
 go_upto_region 1 with fail
 generalize hw0:w.alloc (.cells #[.slice A bs.length c] 24)=w0 at *;clear hw0;have k0:=K0.out.at_ 0 rfl;have hlk:=K0.out.lt;go_cut [22] from 7 to 22 (fun sx wx=>sx=.bool (grL bs.length 4 12 20)∧wx=w0)
 case first=>
  by_cases c1:4 < bs.length
  ·have tc1:decide ((4:Int) < (bs.length:Int))=true:=decide_eq_true (by omega);by_cases c2:bs.length≤12
   ·have tc2:decide ((bs.length:Int)≤(12:Int))=true:=decide_eq_true (by omega);go_wp2
    go_meet
    exact ⟨congrArg Value.bool (by first | rfl | (simp [grL]; omega)),rfl⟩
   ·have tc2:decide ((bs.length:Int)≤(12:Int))=false:=decide_eq_false (by omega);by_cases c3:20 < bs.length
    ·have tc3:decide ((20:Int) < (bs.length:Int))=true:=decide_eq_true (by omega);go_wp2
     go_meet
     exact ⟨congrArg Value.bool (by first | rfl | (simp [grL]; omega)),rfl⟩
    ·have tc3:decide ((20:Int) < (bs.length:Int))=false:=decide_eq_false (by omega);go_wp2
     go_meet
     exact ⟨congrArg Value.bool (by first | rfl | (simp [grL]; omega)),rfl⟩
  ·have tc1:decide ((4:Int) < (bs.length:Int))=false:=decide_eq_false (by omega);by_cases c4:20 < bs.length
   ·have tc4:decide ((20:Int) < (bs.length:Int))=true:=decide_eq_true (by omega);exfalso
    omega
   ·have tc4:decide ((20:Int) < (bs.length:Int))=false:=decide_eq_false (by omega);go_wp2
    go_meet
    exact ⟨congrArg Value.bool (by first | rfl | (simp [grL]; omega)),rfl⟩
 case rest=>
  obtain ⟨rfl,hw⟩:=hcut;replace hw:=hw.symm;subst hw
  cases hgl:grL bs.length 4 12 20 with
  | true=>
   have E:=lh (grE_len hgl);go_wp2
   go_ret
   exact ⟨by rw [E.out]; rfl,B0.out⟩
  | false=>
   have GL:=lh hgl;have SW:=lh (fun W (h:Below w0.heap.size w0 W)=>S.out.below (q0a B0.out h));clear hgl S;go_wp2
   go_loopw [3] (fun s3 wr=>∃ k:Nat,k≤bs.length∧s3=.int .i64 k∧(∀ b∈bs.take k,grBd b=false)∧Below w0.heap.size w0 wr) (fun v _=>bs.length - (intOf v).toNat)
   case atStart=>exact ⟨0,Nat.zero_le _,rfl,by simp,Below.refl _ _⟩
   case round=>
    obtain ⟨k,hk,rfl,hall,hbw⟩:=hrel;have ALL:=lh hall;have HB:=lh hbw;have K1:=lh (K0.out.keep hbw);have k0:=K1.out.at_ 0 rfl;clear hall hbw;by_cases hlt:k < bs.length
    ·have tk':decide ((k:Int) < (bs.length:Int))=true:=decide_eq_true (by omega);obtain ⟨b,o,rfl,-,q0,q1,q2,q3,hok⟩:=(SW.out _ HB.out).at_ hlt;have OK:Hid (∀ W,Below w0.heap.size w0 W→OkB W B (bs[k]'hlt)):=fun W h=>(SW.out W h).all _ (List.getElem_mem hlt);have hst:Hid (bs[k]'hlt∈bs):=List.getElem_mem hlt;have HG:Hid (grBd (bs[k]'hlt)=false→∀ f∈bs.take (k+1),grBd f=false):=fun h=>q1p hlt ALL.out h;have hml:=hok.sl.len;have hnl:=hok.nl;clear hok;generalize bs[k]'hlt=y at *;obtain ⟨yA,hyA⟩:∃ a,y.A=a:=⟨_,rfl⟩;rw [hyA] at q3;have SSW:Hid (∀ W,Below w0.heap.size w0 W→SlS W B yA y.ss y.c):=fun W h=>by rw [← hyA]; exact (OK.out W h).sl
     clear hyA OK;go_upto_region 7 with fail
     generalize hwb:wr.alloc (.cells #[.string ⟨y.nm.toArray⟩,.int .i64 y.gm,.int .i64 y.rd,.slice yA y.ss.length y.c] 92)=wb at *;have HBb:Hid (Below w0.heap.size w0 wb):=(by rw [← hwb]; exact q0a HB.out (blw1 _ _));have K2:Hid (BlkV wb wr.heap.size 92 #[.string ⟨y.nm.toArray⟩,.int .i64 y.gm,.int .i64 y.rd,.slice yA y.ss.length y.c]):=(by rw [← hwb]; exact BlkV.fresh rfl _ _);clear hwb q0 q1 q2 q3 k0;have m0:=K2.out.at_ 0 rfl;have m3:=K2.out.at_ 3 rfl;go_cut [56] from 23 to 101 (fun sx wx=>sx=.bool (decide (200 < y.nm.length) || grL y.ss.length 4 100 110)∧wx=wb)
     case first=>
      by_cases c1:200 < y.nm.length
      ·have tc1:decide ((200:Int) < (y.nm.length:Int))=true:=decide_eq_true (by omega);go_wp2
       go_meet
       exact ⟨congrArg Value.bool (by first | rfl | (simp [grL]; omega)),rfl⟩
      ·have tc1:decide ((200:Int) < (y.nm.length:Int))=false:=decide_eq_false (by omega);by_cases c2:4 < y.ss.length
       ·have tc2:decide ((4:Int) < (y.ss.length:Int))=true:=decide_eq_true (by omega);by_cases c3:y.ss.length≤100
        ·have tc3:decide ((y.ss.length:Int)≤(100:Int))=true:=decide_eq_true (by omega);go_wp2
         go_meet
         exact ⟨congrArg Value.bool (by first | rfl | (simp [grL]; omega)),rfl⟩
        ·have tc3:decide ((y.ss.length:Int)≤(100:Int))=false:=decide_eq_false (by omega);by_cases c4:110 < y.ss.length
         ·have tc4:decide ((110:Int) < (y.ss.length:Int))=true:=decide_eq_true (by omega);go_wp2
          go_meet
          exact ⟨congrArg Value.bool (by first | rfl | (simp [grL]; omega)),rfl⟩
         ·have tc4:decide ((110:Int) < (y.ss.length:Int))=false:=decide_eq_false (by omega);go_wp2
          go_meet
          exact ⟨congrArg Value.bool (by first | rfl | (simp [grL]; omega)),rfl⟩
       ·have tc2:decide ((4:Int) < (y.ss.length:Int))=false:=decide_eq_false (by omega);by_cases c5:110 < y.ss.length
        ·have tc5:decide ((110:Int) < (y.ss.length:Int))=true:=decide_eq_true (by omega);exfalso
         omega
        ·have tc5:decide ((110:Int) < (y.ss.length:Int))=false:=decide_eq_false (by omega);go_wp2
         go_meet
         exact ⟨congrArg Value.bool (by first | rfl | (simp [grL]; omega)),rfl⟩
     case rest=>
      obtain ⟨rfl,hw⟩:=hcut;replace hw:=hw.symm;subst hw
      cases hh:(decide (200 < y.nm.length) || grL y.ss.length 4 100 110) with
      | true=>
       have E:=lh (grE_bad hst.out (grB_head hh));go_wp2
       go_ret
       exact ⟨by rw [E.out]; rfl,q0a B0.out HBb.out⟩
      | false=>
       have HH:=lh hh;clear hh;go_wp2
       go_loopw [5] (fun s5 wv=>∃ j:Nat,j≤y.ss.length∧s5=.int .i64 j∧(∀ s∈y.ss.take j,grS s=false)∧wv=wb) (fun v _=>y.ss.length - (intOf v).toNat)
       case atStart=>exact ⟨0,Nat.zero_le _,rfl,by simp,rfl⟩
       case round=>
        obtain ⟨j,hj,rfl,hall,hw⟩:=hrel;replace hw:=hw.symm;subst hw;have ALL2:=lh hall;clear hall;by_cases hjl:j < y.ss.length
        ·have tj:decide ((j:Int) < (y.ss.length:Int))=true:=decide_eq_true (by omega);have hst2:Hid (y.ss[j]'hjl∈y.ss):=List.getElem_mem hjl;have HG2:Hid (grS (y.ss[j]'hjl)=false→∀ f∈y.ss.take (j+1),grS f=false):=fun h=>q1p hjl ALL2.out h;have hlen2:=fun i=>((SSW.out _ HBb.out).sli hjl i).len;obtain ⟨b2,o2,rfl,-,pC⟩:=(SSW.out _ HBb.out).atC hjl;have PC:=lh pC;clear pC;generalize y.ss[j]'hjl=s at *;have HL2:=lh hlen2;clear hlen2;go_wp2
         go_loopw [6] (fun s6 wv=>∃ i:Nat,i≤3∧s6=.int .i64 i∧(∀ n,n < i→grL (s.l n).length 6 16 30=false)∧wv=wb) (fun v _=>3 - (intOf v).toNat)
         case atStart=>exact ⟨0,by omega,rfl,by omega,rfl⟩
         case round=>
          obtain ⟨i,hi,rfl,hall,hw⟩:=hrel;replace hw:=hw.symm;subst hw;have ALL3:=lh hall;clear hall;by_cases hi3:i < 3
          ·have ti:decide ((i:Int) < 3)=true:=decide_eq_true (by omega);have pc:=PC.out i hi3;have hsl:=HL2.out i;have NX:Hid (grL (s.l i).length 6 16 30=false→∀ n,n < i+1→grL (s.l n).length 6 16 30=false):=fun h=>below3 ALL3.out h;have NB:Hid (grL (s.l i).length 6 16 30=true→grE bs=true):=fun h=>grE_bad hst.out (grB_seg hst2.out (grS_bad h));generalize s.l i=l at *;go_upto_region 15 with fail
           go_cut [101] from 64 to 101 (fun sx wx=>sx=.bool (grL l.length 6 16 30)∧wx=wb)
           case first=>
            by_cases c1:6 < l.length
            ·have tc1:decide ((6:Int) < (l.length:Int))=true:=decide_eq_true (by omega);by_cases c2:l.length≤16
             ·have tc2:decide ((l.length:Int)≤(16:Int))=true:=decide_eq_true (by omega);go_wp2
              go_meet
              exact ⟨congrArg Value.bool (by first | rfl | (simp [grL]; omega)),rfl⟩
             ·have tc2:decide ((l.length:Int)≤(16:Int))=false:=decide_eq_false (by omega);by_cases c3:30 < l.length
              ·have tc3:decide ((30:Int) < (l.length:Int))=true:=decide_eq_true (by omega);go_wp2
               go_meet
               exact ⟨congrArg Value.bool (by first | rfl | (simp [grL]; omega)),rfl⟩
              ·have tc3:decide ((30:Int) < (l.length:Int))=false:=decide_eq_false (by omega);go_wp2
               go_meet
               exact ⟨congrArg Value.bool (by first | rfl | (simp [grL]; omega)),rfl⟩
            ·have tc1:decide ((6:Int) < (l.length:Int))=false:=decide_eq_false (by omega);by_cases c4:30 < l.length
             ·have tc4:decide ((30:Int) < (l.length:Int))=true:=decide_eq_true (by omega);exfalso
              omega
             ·have tc4:decide ((30:Int) < (l.length:Int))=false:=decide_eq_false (by omega);go_wp2
              go_meet
              exact ⟨congrArg Value.bool (by first | rfl | (simp [grL]; omega)),rfl⟩
           case rest=>
            obtain ⟨rfl,hw⟩:=hcut;replace hw:=hw.symm;subst hw
            cases hh:grL l.length 6 16 30 with
            | true=>
             have E:=lh (NB.out hh);go_wp2
             go_ret
             exact ⟨by rw [E.out]; rfl,q0a B0.out HBb.out⟩
            | false=>
             have E:=lh (NX.out hh);go_wp2
             go_roundw
             case rel=>exact ⟨i+1,by omega,by go_num,E.out,trivial⟩
             case measure=>simp [intOf]; omega
          ·obtain rfl:i=3:=by omega
           have ti:decide (((3:Nat):Int) < 3)=false:=rfl;have E:=lh (HG2.out (grS_l ALL3.out));go_wp2
           go_roundw
           case rel=>exact ⟨j+1,by omega,by go_num,E.out,trivial⟩
           case measure=>simp [intOf]; omega
        ·obtain rfl:j=y.ss.length:=by omega
         have tj:decide ((y.ss.length:Int) < (y.ss.length:Int))=false:=decide_eq_false (by omega);have E:=lh (HG.out (grB_ok HH.out (by have:=ALL2.out; rwa [List.take_length] at this)));go_wp2
         go_roundw
         case rel=>exact ⟨k+1,by omega,by go_num,E.out,HBb.out⟩
         case measure=>simp [intOf]; omega
    ·obtain rfl:k=bs.length:=by omega
     have tk':decide ((bs.length:Int) < (bs.length:Int))=false:=decide_eq_false (by omega);have E:=lh (grE_ok GL.out (by have:=ALL.out; rwa [List.take_length] at this));go_wp2
     go_ret
     exact ⟨by rw [E.out]; rfl,q0a B0.out HB.out⟩
end Go.Proofs.YtgnjhlnolihgcaaGreat
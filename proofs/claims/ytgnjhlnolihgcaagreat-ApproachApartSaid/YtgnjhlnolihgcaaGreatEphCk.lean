import Derived.Test.YtgnjhlnolihgcaaGreatEphL
set_option maxHeartbeats 8000000
set_option maxRecDepth 100000
namespace Go.Proofs.YtgnjhlnolihgcaaGreat
open Lib renaming hid → lh
open Go.RowKit
attribute [local go_sem ↓] Go.wp_at_zero Go.wp_at_succ
theorem ret_i {a b:Int} (h:a=b):Ending.returned (.int .i64 a)=.returned (.int .i64 b):=by rw [h]
def ChnK (ss:List SG) (k:Nat):Prop:=∀ j (hj:j < ss.length),j < k→segT (ss[j]'hj) (decide (j=0)) (if h:0 < j then (ss[j - 1]'(by omega)).T else 0)=true
def endK (ss:List SG) (k:Nat):Int:=if h:0 < k∧k≤ss.length then (ss[k - 1]'(by omega)).T else 0
theorem ChnK.zero (ss:List SG):ChnK ss 0:=fun j hj h=>by omega
theorem ChnK.step {ss:List SG} {k:Nat} (h:ChnK ss k) (hk:k < ss.length) (h2:segT (ss[k]'hk) (decide (k=0)) (endK ss k)=true):ChnK ss (k+1):=fun j hj hjk=>by
 rcases Nat.lt_succ_iff_lt_or_eq.1 hjk with h3 | rfl
 ·exact h j hj h3
 ·unfold endK at h2;by_cases h0:0 < j
  ·rw [dif_pos ⟨h0,by omega⟩] at h2; rw [dif_pos h0]; exact h2
  ·rw [dif_neg (by omega)] at h2; rw [dif_neg h0]; exact h2
theorem endK_succ {ss:List SG} {k:Nat} (hk:k < ss.length):endK ss (k+1)=(ss[k]'hk).T:=by
 unfold endK; rw [dif_pos ⟨by omega,by omega⟩]; rfl
theorem ChnK.good {b:BG} (h:ChnK b.ss b.ss.length) (h0:nmB b.nm=true) (h1:0≤b.gm) (h2:b.gm≤1152921504606846976) (h3:0≤b.rd) (h4:b.rd≤1125899906842624) (h5:0 < b.ss.length):GoodB b where
 nm:=h0
 g1:=h1
 g2:=h2
 r1:=h3
 r2:=h4
 ne:=h5
 sg:=fun k hk=>by
  have:=h k hk hk;unfold segT at this;simp only [Bool.and_eq_true] at this;exact this.1
 ch:=fun k hk=>by
  have:=h (k+1) hk hk;unfold segT at this;simp only [Bool.and_eq_true,Bool.or_eq_true,decide_eq_true_eq] at this;rcases this.2 with h | h
  ·omega
  ·rw [dif_pos (by omega)] at h; exact h
theorem ChnK.bad {b:BG} {k:Nat} (hk:k < b.ss.length) (h:segT (b.ss[k]'hk) (decide (k=0)) (endK b.ss k)=false):¬ GoodB b:=fun g=>by
 have h1:=g.sg k hk;unfold segT endK at h;rw [h1] at h;simp only [Bool.true_and,Bool.or_eq_false_iff,decide_eq_false_iff_not] at h;obtain ⟨m,rfl⟩:∃ m,k=m+1:=⟨k - 1,by omega⟩;rw [dif_pos ⟨by omega,by omega⟩] at h;exact h.2 (g.ch m hk)
theorem not_good {bs:List BG} {k:Nat} (hk:k < bs.length) (h:¬ GoodB (bs[k]'hk)):¬ GoodE bs:=fun g=>h (g.b k hk)
theorem not_new {bs:List BG} {k:Nat} (hk:k < bs.length) (h:seenB bs k (bs[k]'hk).nm=true):¬ GoodE bs:=fun g=>by rw [g.u k hk] at h; cases h
def GoodK (bs:List BG) (k:Nat):Prop:=∀ j (hj:j < bs.length),j < k→GoodB (bs[j]'hj)∧seenB bs j (bs[j]'hj).nm=false
theorem GoodK.step {bs:List BG} {k:Nat} (h:GoodK bs k) (hk:k < bs.length) (h2:GoodB (bs[k]'hk)) (h3:seenB bs k (bs[k]'hk).nm=false):GoodK bs (k+1):=fun j hj hjk=>by
 rcases Nat.lt_succ_iff_lt_or_eq.1 hjk with h4 | rfl
 ·exact h j hj h4
 ·exact ⟨h2,h3⟩
theorem GoodK.all {bs:List BG} (h:GoodK bs bs.length):GoodE bs:=⟨fun k hk=>(h k hk hk).1,fun k hk=>(h k hk hk).2⟩
theorem echeck_any (bs:List BG) (A:Option Addr) (c B:Nat) (w:World) (hs:SlB w B A bs c) :
  Calls Tryz.prog 165 #[.agg #[.slice A bs.length c]] w fun e w'=>e=.returned (.int .i64 (chkE bs))∧Below w.heap.size w w':=by
 have hm:=hs.len;have S:=lh hs;have hmm:=@run_makeMap Tryz.prog;clear hs;have K0:Hid (BlkV (w.alloc (.cells #[.slice A bs.length c] 24)) w.heap.size 24 #[.slice A bs.length c]):=BlkV.fresh rfl _ _;have B0:Hid (Below w.heap.size w (w.alloc (.cells #[.slice A bs.length c] 24))):=blw1 _ _;by_cases hbig:12 < bs.length
 ·have t1:decide ((12:Int) < (bs.length:Int))=true:=decide_eq_true (by omega);have E:Hid (chkE bs=4):=chkE_big hbig;clear hbig K0;go_enter Tryz.func165,Tryz.ntmps165
  go_wp2
  go_ret
  exact ⟨ret_i E.out.symm,B0.out⟩
 ·have t1:decide ((12:Int) < (bs.length:Int))=false:=decide_eq_false (by omega);go_enter Tryz.func165,Tryz.ntmps165
  go_wp2
  generalize hw0:w.alloc (.cells #[.slice A bs.length c] 24)=w0 at *;clear hw0;have S0:=lh (S.out.below B0.out);clear S;go_loopw [20] (fun s20 wr=>∃ k:Nat,k≤bs.length∧s20=.int .i64 k∧(∀ b∈bs.take k,manyB b=false)∧Below w0.heap.size w0 wr) (fun v _=>bs.length - (intOf v).toNat)
  case atStart=>exact ⟨0,Nat.zero_le _,rfl,by simp,Below.refl _ _⟩
  case round=>
   obtain ⟨k,hk,rfl,hall,hbw⟩:=hrel;have ALL:=lh hall;have HB:=lh hbw;clear hall hbw;by_cases hlt:k < bs.length
   ·have tk:decide ((k:Int) < (bs.length:Int))=true:=decide_eq_true (by omega);have S2:=lh (S0.out.below HB.out);obtain ⟨b,o,rfl,-,q0,q1,q2,q3,hok⟩:=S2.out.at_ hlt;have OK:=lh hok;have hst:Hid (bs[k]'hlt∈bs):=List.getElem_mem hlt;have HG:Hid (manyB (bs[k]'hlt)=false→∀ f∈bs.take (k+1),manyB f=false):=fun h=>q1p hlt ALL.out h;clear hok S2;generalize bs[k]'hlt=y at *;have hml:=OK.out.sl.len;by_cases h100:100 < y.ss.length
    ·have t2:decide ((100:Int) < (y.ss.length:Int))=true:=decide_eq_true (by omega);have E:Hid (chkE bs=4):=chkE_many hst.out (many_true1 h100);go_wp2
     go_ret
     exact ⟨ret_i E.out.symm,q0a (q0a B0.out HB.out) (blw1 _ _)⟩
    ·have t2:decide ((100:Int) < (y.ss.length:Int))=false:=decide_eq_false (by omega);go_wp2
     generalize hwb:wr.alloc (.cells #[.string ⟨y.nm.toArray⟩,.int .i64 y.gm,.int .i64 y.rd,.slice y.A y.ss.length y.c] 92)=wb at *;have HBb:Hid (Below w0.heap.size w0 wb):=(by rw [← hwb]; exact q0a HB.out (blw1 _ _));have SS:Hid (SlS wb B y.A y.ss y.c):=(by rw [← hwb]; exact OK.out.sl.below (blw1 _ _));clear hwb q0 q1 q2 q3;go_loopw [31] (fun s31 wv=>∃ j:Nat,j≤y.ss.length∧s31=.int .i64 j∧(∀ s∈y.ss.take j,manyS s=false)∧Below wb.heap.size wb wv) (fun v _=>y.ss.length - (intOf v).toNat)
     case atStart=>exact ⟨0,Nat.zero_le _,rfl,by simp,Below.refl _ _⟩
     case round=>
      obtain ⟨j,hj,rfl,hall,hbv⟩:=hrel;have ALL2:=lh hall;have HV:=lh hbv;clear hall hbv;by_cases hjl:j < y.ss.length
      ·have tj:decide ((j:Int) < (y.ss.length:Int))=true:=decide_eq_true (by omega);have S3:=lh (SS.out.below HV.out);obtain ⟨b2,o2,ea2,-,p0,p1,p2,p3,p4,hok2⟩:=S3.out.at_ hjl;have OK2:=lh hok2;have hst2:Hid (y.ss[j]'hjl∈y.ss):=List.getElem_mem hjl;have HG2:Hid (manyS (y.ss[j]'hjl)=false→∀ f∈y.ss.take (j+1),manyS f=false):=fun h=>q1p hjl ALL2.out h;clear hok2 S3;generalize y.ss[j]'hjl=s at *;have hl0:=OK2.out.i0.len;have hl1:=OK2.out.i1.len;have hl2:=OK2.out.i2.len;have hmx:Hid (manyS s=decide (16 < max (max (s.l0.length:Int) (s.l1.length:Int)) (s.l2.length:Int))):=(by rw [Hid,manyS_max]; exact decide_eq_decide.2 (by omega));by_cases h16:16 < max (max (s.l0.length:Int) (s.l1.length:Int)) (s.l2.length:Int)
       ·have t3:decide (16 < max (max (s.l0.length:Int) (s.l1.length:Int)) (s.l2.length:Int))=true:=decide_eq_true h16;have E:Hid (chkE bs=4):=chkE_many hst.out (many_true2 hst2.out (by rw [hmx.out,t3]));go_wp2
        all_goals go_ret
        all_goals exact ⟨ret_i E.out.symm,q0a (q0a (q0a B0.out HBb.out) HV.out) (blw1 _ _)⟩
       ·have t3:decide (16 < max (max (s.l0.length:Int) (s.l1.length:Int)) (s.l2.length:Int))=false:=decide_eq_false h16;have HM:=lh (HG2.out (by rw [hmx.out,t3]));go_wp2
        all_goals
         go_roundw
         case rel=>exact ⟨j+1,by omega,by go_num,HM.out,q0a HV.out (blw1 _ _)⟩
         case measure=>simp [intOf]; omega
      ·obtain rfl:j=y.ss.length:=by omega
       have tj:decide ((y.ss.length:Int) < (y.ss.length:Int))=false:=decide_eq_false (by omega);have HM:=lh (HG.out (many_false (by omega) (by have:=ALL2.out; rwa [List.take_length] at this)));go_wp2
       go_roundw
       case rel=>exact ⟨k+1,by omega,by go_num,HM.out,q0a HBb.out HV.out⟩
       case measure=>simp [intOf]; omega
   ·obtain rfl:k=bs.length:=by omega
    generalize wr=wa at *;have tk:decide ((bs.length:Int) < (bs.length:Int))=false:=decide_eq_false (by omega);have FEW:Hid (∀ b∈bs,manyB b=false):=(by have:=ALL.out; rwa [List.take_length] at this);have K1:=lh (K0.out.keep HB.out);have HB1:=lh (q0a B0.out HB.out);have SB:=lh (S0.out.below HB.out);have SW:Hid (∀ W,Below wa.heap.size wa W→SlB W B A bs c):=fun W h=>SB.out.below h;clear ALL HB S0 K0 B0;have kq:=K1.out.at_ 0 rfl;have M0:Hid (Seen (wa.alloc (.map #[] 0)) wa.heap.size 0 (fun _=>false)):=Seen.made wa;have kq2:=(K1.out.keep (blw1 wa (.map #[] 0))).at_ 0 rfl;go_wp2
    generalize hwm:wa.alloc (.map #[] 0)=wm at *;have Bm:Hid (Below wa.heap.size wa wm):=(by rw [← hwm]; exact blw1 _ _);clear hwm SB kq kq2 K1;go_loopw [55] (fun s55 wv=>∃ k:Nat,k≤bs.length∧s55=.int .i64 k∧GoodK bs k∧Seen wv wa.heap.size k (seenB bs k)∧Below wa.heap.size wa wv) (fun v _=>bs.length - (intOf v).toNat)
    case atStart=>exact ⟨0,Nat.zero_le _,rfl,fun j hj h=>by omega,M0.out.cong (fun _=>rfl),Bm.out⟩
    case round=>
     generalize wr=wv at *;obtain ⟨k,hk,rfl,hall,hsn,hbw⟩:=hrel;have ALL:=lh hall;have HB:=lh hbw;have SN:=lh hsn;clear hall hbw hsn;by_cases hlt:k < bs.length
     ·have tk:decide ((k:Int) < (bs.length:Int))=true:=decide_eq_true (by omega);have S2:=lh (SW.out _ HB.out);obtain ⟨b,o,rfl,-,q0,q1,q2,q3,hok⟩:=S2.out.at_ hlt;have OK:=lh hok;have NG:Hid (¬ GoodB (bs[k]'hlt)→chkE bs=8):=fun h=>chkE_bad (by omega) FEW.out (not_good hlt h);have NS:Hid (seenB bs k (bs[k]'hlt).nm=true→chkE bs=8):=fun h=>chkE_bad (by omega) FEW.out (not_new hlt h);have NX:Hid (GoodB (bs[k]'hlt)→seenB bs k (bs[k]'hlt).nm=false→GoodK bs (k+1)):=fun h1 h2=>ALL.out.step hlt h1 h2;have NY:Hid (∀ s,(seenB bs k s || decide ((bs[k]'hlt).nm=s))=seenB bs (k+1) s):=fun s=>(seenB_succ hlt s).symm;have OW:Hid (∀ W,Below wa.heap.size wa W→OkB W B (bs[k]'hlt)):=fun W h=>(SW.out W h).all _ (List.getElem_mem hlt);have hlv:wa.heap.size < wv.heap.size:=SN.out.lt;clear hok S2;generalize bs[k]'hlt=y at *;have hml:=OK.out.sl.len;have hnl:=OK.out.nl;obtain ⟨yA,hyA⟩:∃ a,y.A=a:=⟨_,rfl⟩;rw [hyA] at q3;have SSW:Hid (∀ W,Below wa.heap.size wa W→SlS W B yA y.ss y.c):=fun W h=>by rw [← hyA]; exact (OW.out W h).sl
      clear hyA OW;have CN:=lh (fun W=>ename_any y.nm hnl W);have Kb:Hid (BlkV (wv.alloc (.cells #[.string ⟨y.nm.toArray⟩,.int .i64 y.gm,.int .i64 y.rd,.slice yA y.ss.length y.c] 92)) wv.heap.size 92 #[.string ⟨y.nm.toArray⟩,.int .i64 y.gm,.int .i64 y.rd,.slice yA y.ss.length y.c]):=BlkV.fresh rfl _ _
      cases hn:nmB y.nm with
      | false=>
       have E:Hid (chkE bs=8):=NG.out fun g=>by rw [g.nm] at hn; cases hn
       rw [hn] at CN;clear hn;go_wp2_with fail
       refine (CN.out _).mono ?_;rintro x w1 ⟨rfl,hb⟩;have HB1x:=lh (q0a HB.out (q0a (blw1 _ _) hb));replace Kb:=lh (Kb.out.keep hb);replace SN:=lh ((SN.out.keep (blw1 _ _)).keep hb);clear hb q0 q1 q2 q3;have k0:=Kb.out.at_ 0 rfl;have k1:=Kb.out.at_ 1 rfl;have k2:=Kb.out.at_ 2 rfl;have k3:=Kb.out.at_ 3 rfl;have hrun:=SN.out.look y.nm hnl;clear hrun;go_wp2
       go_ret
       exact ⟨ret_i E.out.symm,q0a HB1.out HB1x.out⟩
      | true=>
       have HN:=lh hn;rw [hn] at CN;clear hn;go_wp2_with fail
       refine (CN.out _).mono ?_;rintro x w1 ⟨rfl,hb⟩;have HB1x:=lh (q0a HB.out (q0a (blw1 _ _) hb));replace Kb:=lh (Kb.out.keep hb);replace SN:=lh ((SN.out.keep (blw1 _ _)).keep hb);clear hb q0 q1 q2 q3;have k0:=Kb.out.at_ 0 rfl;have k1:=Kb.out.at_ 1 rfl;have k2:=Kb.out.at_ 2 rfl;have k3:=Kb.out.at_ 3 rfl;have hrun:=SN.out.look y.nm hnl
       cases hsn:seenB bs k y.nm with
       | true=>
        have E:Hid (chkE bs=8):=NS.out hsn;rw [hsn] at hrun;go_wp2
        go_ret
        exact ⟨ret_i E.out.symm,q0a HB1.out HB1x.out⟩
       | false=>
        have HS0:=lh hsn;rw [hsn] at hrun;clear hsn;by_cases c1:y.gm < 0
        ·have u1:decide (y.gm < 0)=true:=decide_eq_true c1;have E:Hid (chkE bs=8):=NG.out fun g=>by have:=g.g1; omega
         go_wp2
         go_ret
         exact ⟨ret_i E.out.symm,q0a HB1.out HB1x.out⟩
        ·have u1:decide (y.gm < 0)=false:=decide_eq_false c1;by_cases c2:1152921504606846976 < y.gm
         ·have u2:decide (1152921504606846976 < y.gm)=true:=decide_eq_true c2;have E:Hid (chkE bs=8):=NG.out fun g=>by have:=g.g2; omega
          go_wp2
          go_ret
          exact ⟨ret_i E.out.symm,q0a HB1.out HB1x.out⟩
         ·have u2:decide (1152921504606846976 < y.gm)=false:=decide_eq_false c2;by_cases c3:y.rd < 0
          ·have u3:decide (y.rd < 0)=true:=decide_eq_true c3;have E:Hid (chkE bs=8):=NG.out fun g=>by have:=g.r1; omega
           go_wp2
           go_ret
           exact ⟨ret_i E.out.symm,q0a HB1.out HB1x.out⟩
          ·have u3:decide (y.rd < 0)=false:=decide_eq_false c3;by_cases c4:1125899906842624 < y.rd
           ·have u4:decide (1125899906842624 < y.rd)=true:=decide_eq_true c4;have E:Hid (chkE bs=8):=NG.out fun g=>by have:=g.r2; omega
            go_wp2
            go_ret
            exact ⟨ret_i E.out.symm,q0a HB1.out HB1x.out⟩
           ·have u4:decide (1125899906842624 < y.rd)=false:=decide_eq_false c4;by_cases c5:y.ss.length=0
            ·have u5:((y.ss.length:Int) == 0)=true:=(by rw [beq_iff_eq]; omega);have E:Hid (chkE bs=8):=NG.out fun g=>by have:=g.ne; omega
             go_wp2
             go_ret
             exact ⟨ret_i E.out.symm,q0a HB1.out HB1x.out⟩
            ·have u5:((y.ss.length:Int) == 0)=false:=(by rw [beq_eq_false_iff_ne]; omega);obtain ⟨w2,hupd,hsn2,hgr⟩:=SN.out.store y.nm hnl (by omega);have HB2:Hid (Below wa.heap.size wa w2):=HB1x.out.grown hgr HB1x.out.size (fun j e=>by cases e; exact Nat.le_refl _);have SN2:=lh (hsn2.cong NY.out);have Kb2:Hid (BlkV w2 wv.heap.size 92 #[.string ⟨y.nm.toArray⟩,.int .i64 y.gm,.int .i64 y.rd,.slice yA y.ss.length y.c]):=(hgr.block _ Kb.out.lt (fun e=>by have:=Option.some.inj e; omega)).trans Kb.out;have HGR:=lh hgr;have HUP:=lh hupd;clear hgr hsn2;have m3:=Kb2.out.at_ 3 rfl;go_wp2
             go_loopw [10,101] (fun s10 s101 wz=>∃ j:Nat,j≤y.ss.length∧s101=.int .i64 j∧s10=.int .i64 (endK y.ss j)∧ChnK y.ss j∧Below w2.heap.size w2 wz) (fun _ v _=>y.ss.length - (intOf v).toNat)
             case atStart=>exact ⟨0,Nat.zero_le _,rfl,rfl,ChnK.zero _,Below.refl _ _⟩
             case round=>
              generalize wr=wz at *;obtain ⟨j,hj,rfl,rfl,hcn,hbz⟩:=hrel;have CHN:=lh hcn;have HZ:=lh hbz;clear hcn hbz;by_cases hjl:j < y.ss.length
              ·have tj:decide ((j:Int) < (y.ss.length:Int))=true:=decide_eq_true (by omega);have S3:=lh (SSW.out _ (q0a HB2.out HZ.out));obtain ⟨b2,o2,rfl,-,p0,p1,p2,p3,p4,hok2⟩:=S3.out.at_ hjl;have OK2:=lh hok2;have NB:Hid (segT (y.ss[j]'hjl) (decide (j=0)) (endK y.ss j)=false→chkE bs=8):=fun h=>NG.out (ChnK.bad hjl h);have NC:Hid (segT (y.ss[j]'hjl) (decide (j=0)) (endK y.ss j)=true→ChnK y.ss (j+1)):=fun h=>CHN.out.step hjl h;have NE:Hid (endK y.ss (j+1)=(y.ss[j]'hjl).T):=endK_succ hjl;clear hok2 S3;generalize y.ss[j]'hjl=s at *;generalize endK y.ss j=en at *;have Kg:Hid (BlkV (wz.alloc (.cells #[.int .i64 s.F,.int .i64 s.T,.slice s.A0 s.l0.length s.c0,.slice s.A1 s.l1.length s.c1,.slice s.A2 s.l2.length s.c2] 95)) wz.heap.size 95 #[.int .i64 s.F,.int .i64 s.T,.slice s.A0 s.l0.length s.c0,.slice s.A1 s.l1.length s.c1,.slice s.A2 s.l2.length s.c2]):=BlkV.fresh rfl _ _;by_cases hj0:j=0
               ·have tz:((j:Int) == 0)=true:=(by rw [beq_iff_eq]; omega);rw [decide_eq_true hj0] at NB NC;clear hj0;have CS:=lh (fun W hW=>eseg_any s true en B W hW)
                cases hT:segT s true en with
                | false=>
                 have E:Hid (chkE bs=8):=NB.out hT;rw [hT] at CS;clear hT;go_wp2_with fail
                 refine (CS.out _ (OK2.out.below (blw1 _ _))).mono ?_;rintro x w3 ⟨rfl,hb⟩;have HZ3:=lh (q0a HZ.out (q0a (blw1 _ _) hb));have g1:=(Kg.out.keep hb).at_ 1 rfl;clear hb p0 p1 p2 p3 p4;go_wp2
                 go_ret
                 exact ⟨ret_i E.out.symm,q0a HB1.out (q0a HB2.out HZ3.out)⟩
                | true=>
                 have HC:=lh (NC.out hT);rw [hT] at CS;clear hT;go_wp2_with fail
                 refine (CS.out _ (OK2.out.below (blw1 _ _))).mono ?_;rintro x w3 ⟨rfl,hb⟩;have HZ3:=lh (q0a HZ.out (q0a (blw1 _ _) hb));have g1:=(Kg.out.keep hb).at_ 1 rfl;clear hb p0 p1 p2 p3 p4;go_wp2
                 go_roundw
                 case rel=>exact ⟨j+1,by omega,by go_num,by rw [NE.out],HC.out,HZ3.out⟩
                 case measure=>simp [intOf]; omega
               ·have tz:((j:Int) == 0)=false:=(by rw [beq_eq_false_iff_ne]; omega);rw [decide_eq_false hj0] at NB NC;have CS:=lh (fun W hW=>eseg_any s false en B W hW)
                cases hT:segT s false en with
                | false=>
                 have E:Hid (chkE bs=8):=NB.out hT;rw [hT] at CS;clear hT;go_wp2_with fail
                 refine (CS.out _ (OK2.out.below (blw1 _ _))).mono ?_;rintro x w3 ⟨rfl,hb⟩;have HZ3:=lh (q0a HZ.out (q0a (blw1 _ _) hb));have g1:=(Kg.out.keep hb).at_ 1 rfl;clear hb p0 p1 p2 p3 p4;go_wp2
                 go_ret
                 exact ⟨ret_i E.out.symm,q0a HB1.out (q0a HB2.out HZ3.out)⟩
                | true=>
                 have HC:=lh (NC.out hT);rw [hT] at CS;clear hT;go_wp2_with fail
                 refine (CS.out _ (OK2.out.below (blw1 _ _))).mono ?_;rintro x w3 ⟨rfl,hb⟩;have HZ3:=lh (q0a HZ.out (q0a (blw1 _ _) hb));have g1:=(Kg.out.keep hb).at_ 1 rfl;clear hb p0 p1 p2 p3 p4;go_wp2
                 go_roundw
                 case rel=>exact ⟨j+1,by omega,by go_num,by rw [NE.out],HC.out,HZ3.out⟩
                 case measure=>simp [intOf]; omega
              ·obtain rfl:j=y.ss.length:=by omega
               have tj:decide ((y.ss.length:Int) < (y.ss.length:Int))=false:=decide_eq_false (by omega);have HGK:=lh (NX.out (CHN.out.good HN.out (by omega) (by omega) (by omega) (by omega) (by omega)) HS0.out);go_wp2
               go_roundw
               case rel=>exact ⟨k+1,by omega,by go_num,HGK.out,SN2.out.keep HZ.out,q0a HB2.out HZ.out⟩
               case measure=>simp [intOf]; omega
     ·obtain rfl:k=bs.length:=by omega
      have tk:decide ((bs.length:Int) < (bs.length:Int))=false:=decide_eq_false (by omega);have E:Hid (chkE bs=0):=chkE_good (by omega) FEW.out ALL.out.all;go_wp2
      go_ret
      exact ⟨ret_i E.out.symm,q0a HB1.out HB.out⟩
end Go.Proofs.YtgnjhlnolihgcaaGreat
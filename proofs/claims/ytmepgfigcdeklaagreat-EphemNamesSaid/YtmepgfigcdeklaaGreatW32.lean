import Derived.Test.YtmepgfigcdeklaaGreatW21
import Derived.Deep.CutBlock
import Derived.BigQuiet
set_option maxHeartbeats 4000000
set_option maxRecDepth 100000
namespace Go.Proofs.YtmepgfigcdeklaaGreat
open Lib renaming hid → lh
open Go.RowKit
theorem and_low (t:Nat) (ht:t < 18446744073709551616):bits .and .u64 (t:Int) 4294967295=((t % 4294967296:Nat):Int):=by
 have h:(4294967295:Int)=((2 ^ 32 - 1:Nat):Int):=(by decide);rw [h,u64_and _ _ (by omega) (by omega) (by omega) (by omega)];congr 1
 rw [Int.toNat_natCast,Int.toNat_natCast,Nat.and_two_pow_sub_one_eq_mod]
theorem digit_any (g j n cu:Nat) (U v:List Nat) (A:Option Addr) (c:Nat) (w:World) (hU:Bx w g U) (hUl:Lim U) (hs:Sl w A v c) (hf:∀ ad,A=some ad→ad.block≠g) (hn:v.length=n) (hn2:2≤n) (hlen:n≤1000000) (hj:j+(n+1)≤U.length) (hcu:n+1≤cu)
  (htop:0 < v[n - 1]?.getD 0) (hlt:val ((U.drop j).take (n+1)) < val v * 4294967296) :
  Calls Tryz.prog 192 #[.slice (some ⟨g,j,none⟩) (n+1) cu,.slice A n c] w (StepRes U j v g w):=by
 subst hn;have Hself:Hid (seg U j ((U.drop j).take (v.length+1))=U):=seg_self hj;have Hul:Hid (Lim ((U.drop j).take (v.length+1))):=q1s (lim_drop hUl j) _;have Hlu:Hid (((U.drop j).take (v.length+1)).length=v.length+1):=(by unfold Hid; rw [List.length_take,List.length_drop]; omega);have HU:=lh hU;have Hs:=lh hs;have Hf:=lh hf;unfold StepRes;generalize hu:(U.drop j).take (v.length+1)=u at *
 have hvpos:0 < val v:=by
  rcases Nat.eq_zero_or_pos (val v) with h0 | h0
  ·rw [h0] at hlt; omega
  ·exact h0
 have Hvpos:=lh hvpos;have Hq0:=lh (digit_lt hlt);have Hdl:=lh (digit_le (n:=v.length) (by omega) Hlu.out rfl Hul.out htop)
 have hu1:w.cell? ⟨g,j+v.length,none⟩=some (.int .u32 (u[v.length]?.getD 0:Nat)):=by
  rw [HU.out.cell (by omega),← hu,List.getElem?_take_of_lt (by omega),List.getElem?_drop]
 have hu2:w.cell? ⟨g,j+(v.length - 1),none⟩=some (.int .u32 (u[v.length - 1]?.getD 0:Nat)):=by
  rw [HU.out.cell (by omega),← hu,List.getElem?_take_of_lt (by omega),List.getElem?_drop]
 have hu3:w.cell? ⟨g,j+(v.length - 2),none⟩=some (.int .u32 (u[v.length - 2]?.getD 0:Nat)):=by
  rw [HU.out.cell (by omega),← hu,List.getElem?_take_of_lt (by omega),List.getElem?_drop]
 have hx1:=q0f Hul.out v.length;have hx2:=q0f Hul.out (v.length - 1);have hx3:=q0f Hul.out (v.length - 2);have hy2:=q0f Hs.out.lim (v.length - 1);have hy3:=q0f Hs.out.lim (v.length - 2);obtain ⟨b1,o1,rfl,hy1⟩:=Hs.out.rd.at_ (k:=v.length - 1) (by omega);obtain ⟨b2,o2,e2,hz1⟩:=Hs.out.rd.at_ (k:=v.length - 2) (by omega);cases e2
 have Hest:Hid (∀ q r,q * v[v.length - 1]?.getD 0+r=u[v.length]?.getD 0 * 4294967296+u[v.length - 1]?.getD 0→r * 4294967296+u[v.length - 2]?.getD 0 < q * v[v.length - 2]?.getD 0→val u / val v < q):=
  fun q r h1 h2=>(Nat.div_lt_iff_lt_mul hvpos).2 (est_lt hn2 Hlu.out rfl Hul.out h1 h2)
 clear hu hU hUl hs hlt hvpos hf;generalize u[v.length]?.getD 0=x1 at *;generalize u[v.length - 1]?.getD 0=x2 at *;generalize u[v.length - 2]?.getD 0=x3 at *;generalize v[v.length - 1]?.getD 0=y at *;generalize v[v.length - 2]?.getD 0=z at *;obtain ⟨T,hT⟩:∃ T,T=x1 * 4294967296+x2:=⟨_,rfl⟩;have hT2:T < 18446744073709551616:=(by omega);have HT:=lh hT;rw [← hT] at Hdl Hest;have hTz:((x1:Int) * 4294967296+(x2:Int))=(T:Int):=(by omega);have hTz2:((x1:Int) * 4294967296) < 18446744073709551616:=(by omega);obtain ⟨G0,hG0⟩:∃ G0,G0=T / y:=⟨_,rfl⟩;obtain ⟨R0,hR0⟩:∃ R0,R0=T % y:=⟨_,rfl⟩;have hGz:(T:Int) / (y:Int)=(G0:Int):=(by rw [hG0]; simp);have hRz:(T:Int) % (y:Int)=(R0:Int):=(by rw [hR0]; simp);have hGlt:G0 < 18446744073709551616:=(by rw [hG0]; exact Nat.lt_of_le_of_lt (Nat.div_le_self _ _) hT2);have Hinv0:Hid (G0 * y+R0=T):=(by unfold Hid; rw [hG0,hR0,Nat.mul_comm]; exact Nat.div_add_mod T y);rw [← hG0] at Hdl;clear hT hG0 hR0;go_enter Tryz.func192,Tryz.ntmps192
 go_wp2
 go_quiet (fail)
 go_wp2
 have hv3:(w.drewN nq).cell? ⟨b1,o1+(v.length - 1),none⟩=some (.int .u32 (y:Nat)):=hy1;have hB0:Hid (Below w.heap.size w (w.drewN nq)):=below_drewN (Below.refl _ _) _;generalize w.drewN nq=wq at *;go_wp2
 go_quiet (fail)
 have hB1:Hid (Below w.heap.size w (wq.drewN nq)):=below_drewN hB0.out _;generalize wq.drewN nq=wz at *;go_upto_block 0 with fail
 go_cut [7,8] from 45 to 86 (fun s7 _ wx=>∃ q:Nat,s7=.int .u64 q∧val u / val v≤q∧q < 4294967296∧Below w.heap.size w wx)
 case first=>
  go_wp2_with fail
  go_loopw [7,8] (fun s7 s8 wr=>∃ q r:Nat,s7=.int .u64 q∧s8=.int .u64 r∧q * y+r=T∧val u / val v≤q∧Below w.heap.size w wr) (fun s7 _ _=>(intOf s7).toNat)
  case atStart=>exact ⟨G0,R0,rfl,int_eq hRz,Hinv0.out,Hdl.out,hB1.out⟩
  case round=>
   obtain ⟨q,r,rfl,rfl,hinv,hle,hb⟩:=hrel;have Hinv:=lh hinv;have Hle:=lh hle;have Hb:=lh hb;have hqT:q≤T:=(by have:=Nat.le_mul_of_pos_right q htop; omega);have hrT:r≤T:=(by omega);clear hinv hle hb;by_cases hqB:q < 4294967296
   ·have d1:decide ((4294967296:Int)≤(q:Int))=false:=decide_eq_false (by omega);by_cases hrB:r < 4294967296
    ·have d2:decide ((r:Int) < 4294967296)=true:=decide_eq_true (by omega);have hu4:wr.cell? ⟨g,j+(v.length - 2),none⟩=some (.int .u32 (x3:Nat)):=q0b Hb.out hu3;have hz4:wr.cell? ⟨b1,o1+(v.length - 2),none⟩=some (.int .u32 (z:Nat)):=q0b Hb.out hz1;obtain ⟨p,hp⟩:∃ p,p=q * z:=⟨_,rfl⟩;have hpz:(q:Int) * (z:Int)=(p:Int):=by rw [hp]; simp
     have hp2:p < 18446744073709551616:=by
      have:=Nat.mul_le_mul (show q≤4294967295 by omega) (show z≤4294967295 by omega);omega
     have hrz:(r:Int) * 4294967296+(x3:Int) < 18446744073709551616:=(by omega);by_cases hcmp:r * 4294967296+x3 < p
     ·have Hlt:Hid (val u / val v≤q - 1):=Nat.le_sub_one_of_lt (Hest.out q r Hinv.out (by rw [← hp]; exact hcmp))
      have hq1:0 < q:=by
       rcases Nat.eq_zero_or_pos q with h0 | h0
       ·subst h0; omega
       ·exact h0
      have d3:decide ((r:Int) * 4294967296+(x3:Int) < (p:Int))=true:=decide_eq_true (by omega);clear hp;go_wp2_with fail
      go_quiet (fail)
      have Hst:Hid ((q - 1) * y+(r+y)=T):=est_step Hinv.out hq1;have hst2:r+y≤T:=(by have:=Hst.out; omega);have Hb2:Hid (Below w.heap.size w (wr.drewN nq)):=below_drewN Hb.out _;have hv4:(wr.drewN nq).cell? ⟨b1,o1+(v.length - 1),none⟩=some (.int .u32 (y:Nat)):=q0b Hb2.out hy1;generalize wr.drewN nq=ws at *;by_cases hr2:r+y < 4294967296
      ·have d5:decide ((4294967296:Int)≤(r:Int)+(y:Int))=false:=decide_eq_false (by omega);go_wp2
       go_roundw
       case rel=>exact ⟨q - 1,r+y,by go_num,by go_num,Hst.out,Hlt.out,Hb2.out⟩
       case measure=>simp [intOf] <;> omega
      ·have d5:decide ((4294967296:Int)≤(r:Int)+(y:Int))=true:=decide_eq_true (by omega);by_cases hq2:q - 1 < 4294967296
       ·have d6:decide ((q:Int) - 1 < 4294967296)=true:=decide_eq_true (by omega);go_wp2
        go_meet
        exact ⟨q - 1,by go_num,Hlt.out,hq2,Hb2.out⟩
       ·have d6:decide ((q:Int) - 1 < 4294967296)=false:=decide_eq_false (by omega);go_wp2
        go_roundw
        case rel=>exact ⟨q - 1,r+y,by go_num,by go_num,Hst.out,Hlt.out,Hb2.out⟩
        case measure=>simp [intOf] <;> omega
     ·have d3:decide ((r:Int) * 4294967296+(x3:Int) < (p:Int))=false:=decide_eq_false (by omega);clear hp;go_wp2_with fail
      go_quiet (fail)
      go_wp2
      go_meet
      exact ⟨q,rfl,Hle.out,hqB,below_drewN Hb.out _⟩
    ·have d2:decide ((r:Int) < 4294967296)=false:=decide_eq_false (by omega);go_wp2_with fail
     go_quiet (fail)
     go_wp2
     go_meet
     exact ⟨q,rfl,Hle.out,hqB,below_drewN Hb.out _⟩
   ·have d1:decide ((4294967296:Int)≤(q:Int))=true:=decide_eq_true (by omega);have hq1:0 < q:=(by omega);have Hlt:Hid (val u / val v≤q - 1):=(by have:=Hq0.out; unfold Hid; omega);go_wp2_with fail
    go_quiet (fail)
    have Hst:Hid ((q - 1) * y+(r+y)=T):=est_step Hinv.out hq1;have hst2:r+y≤T:=(by have:=Hst.out; omega);have Hb2:Hid (Below w.heap.size w (wr.drewN nq)):=below_drewN Hb.out _;have hv4:(wr.drewN nq).cell? ⟨b1,o1+(v.length - 1),none⟩=some (.int .u32 (y:Nat)):=q0b Hb2.out hy1;generalize wr.drewN nq=ws at *;by_cases hr2:r+y < 4294967296
    ·have d5:decide ((4294967296:Int)≤(r:Int)+(y:Int))=false:=decide_eq_false (by omega);go_wp2
     go_roundw
     case rel=>exact ⟨q - 1,r+y,by go_num,by go_num,Hst.out,Hlt.out,Hb2.out⟩
     case measure=>simp [intOf] <;> omega
    ·have d5:decide ((4294967296:Int)≤(r:Int)+(y:Int))=true:=decide_eq_true (by omega);by_cases hq2:q - 1 < 4294967296
     ·have d6:decide ((q:Int) - 1 < 4294967296)=true:=decide_eq_true (by omega);go_wp2
      go_meet
      exact ⟨q - 1,by go_num,Hlt.out,hq2,Hb2.out⟩
     ·have d6:decide ((q:Int) - 1 < 4294967296)=false:=decide_eq_false (by omega);go_wp2
      go_roundw
      case rel=>exact ⟨q - 1,r+y,by go_num,by go_num,Hst.out,Hlt.out,Hb2.out⟩
      case measure=>simp [intOf] <;> omega
 case rest=>
  obtain ⟨q,rfl,hle,hq32,hb⟩:=hcut;have Hle:=lh hle;have HUc:Hid (Bx wc g (seg U j u)):=(by unfold Hid; rw [Hself.out]; exact HU.out.kept hb);have Hbut0:Hid (But g w wc):=But.of g hb;clear hle hb hu1 hu2 hu3 hy1 hz1 hv3 HT hTz hTz2 hGz hRz hGlt Hinv0 Hdl hT2 HU hx1 hx2 hx3 hy2 hy3 Hest hB0 hB1;go_wp2
  go_loopw [9,10,11,12] (fun bs cs is _ wr=>∃ (k cr b:Nat) (s:List Nat),is=.int .i64 k∧cs=.int .u64 cr∧bs=.int .i64 b∧k≤v.length+1∧cr < 4294967296∧b≤1∧(v.length < k→cr=0)∧s.length=v.length+1∧Lim s∧Bx wr g (seg U j s) ∧
    pv s k+q * pv v k=pv u k+(b+cr) * 4294967296 ^ k∧(∀ i,k≤i→s[i]?.getD 0=u[i]?.getD 0)∧But g w wr) (fun _ _ is _ _=>v.length+1 - (intOf is).toNat)
  case atStart=>exact ⟨0,0,0,u,rfl,rfl,rfl,by omega,by omega,by omega,fun _=>rfl,Hlu.out,Hul.out,HUc.out,by simp [q1o],fun _ _=>rfl,Hbut0.out⟩
  case round=>
   obtain ⟨k,cr,b,s,rfl,rfl,rfl,hk,hcr,hb1,hc0,hsl,hslim,hblk,hsum,hsame,hbut⟩:=hrel;have Hc0:=lh hc0;have Hsl:=lh hsl;have Hslim:=lh hslim;have Hblk:=lh hblk;have Hsum:=lh hsum;have Hsame:=lh hsame;have Hbut:=lh hbut;clear hc0 hsl hslim hblk hsum hsame hbut;by_cases hlt:k≤v.length
   ·have hx2:=q0f Hslim.out k;have hcell:wr.cell? ⟨g,j+k,none⟩=some (.int .u32 (s[k]?.getD 0:Nat)):=Hblk.out.segCell (by rw [Hsl.out]; omega) (by rw [Hsl.out]; omega);have hfr:wr.frozen? ⟨g,j+k,none⟩=false:=Hblk.out.frozen _;have Hst:=lh (msub_step (o:=s) (u:=u) (v:=v) (q:=q) (d:=(s[k]?.getD 0+8589934592 - (cr+q * v[k]?.getD 0) % 4294967296 - b) % 4294967296) (by rw [Hsl.out]; omega) (sub_eq hx2 (Nat.mod_lt _ (by omega)) hb1) (Hsame.out k (Nat.le_refl _)) Hsum.out);by_cases hlt2:k < v.length
    ·obtain ⟨b3,o3,e3,hy1⟩:=(Hs.out.but Hf.out Hbut.out).rd.at_ (k:=k) hlt2;cases e3
     have hy2:=q0f Hs.out.lim k;have hmle:q * v[k]?.getD 0≤4294967295 * 4294967295:=mul_le hq32 hy2;generalize v[k]?.getD 0=y3 at *;generalize hx:s[k]?.getD 0=x at *;obtain ⟨p,hp⟩:∃ p,p=q * y3:=⟨_,rfl⟩;have hpz:(q:Int) * (y3:Int)=(p:Int):=(by rw [hp]; simp);rw [← hp] at hmle Hst;obtain ⟨C,hC⟩:∃ C,C=cr+p:=⟨_,rfl⟩;have hpC:(cr:Int)+(p:Int)=(C:Int):=(by omega);have hC2:C < 18446744073709551616:=(by omega);have hCn:C / 4294967296 < 4294967296:=(by omega);have Hcl:Hid (v.length < k+1→C / 4294967296=0):=fun h=>absurd h (by omega);rw [← hC] at Hst;clear hp hC hx;obtain ⟨m,hm⟩:∃ m,m=C % 4294967296:=⟨_,rfl⟩;obtain ⟨cn,hcn⟩:∃ cn,cn=C / 4294967296:=⟨_,rfl⟩;have hmlt:m < 4294967296:=(by omega);have hand:bits .and .u64 (C:Int) 4294967295=(m:Int):=(by rw [hm]; exact and_low C hC2);have hcz:(C:Int) / 4294967296=(cn:Int):=(by omega);rw [← hm,← hcn] at Hst;rw [← hcn] at hCn Hcl;clear hm hcn;by_cases hneg:x < m+b
     ·rw [if_pos hneg] at Hst;go_wp2
      go_roundw
      case rel=>exact ⟨k+1,cn,1,s.set k ((x+8589934592 - m - b) % 4294967296),by go_num,int_eq (by omega),rfl,by omega,hCn,by omega,Hcl.out,by rw [List.length_set]; exact Hsl.out,q0w Hslim.out (Nat.mod_lt _ (by omega)),Hblk.out.segSet (by rw [Hsl.out]; omega) (by rw [Hsl.out]; omega) (by omega),Hst.out,fun i hi=>by rw [getD_set_ne (by omega)]; exact Hsame.out i (by omega),Hbut.out.set _ rfl _⟩
      case measure=>simp [intOf] <;> omega
     ·rw [if_neg hneg] at Hst;go_wp2
      go_roundw
      case rel=>exact ⟨k+1,cn,0,s.set k ((x+8589934592 - m - b) % 4294967296),by go_num,int_eq (by omega),rfl,by omega,hCn,by omega,Hcl.out,by rw [List.length_set]; exact Hsl.out,q0w Hslim.out (Nat.mod_lt _ (by omega)),Hblk.out.segSet (by rw [Hsl.out]; omega) (by rw [Hsl.out]; omega) (by omega),Hst.out,fun i hi=>by rw [getD_set_ne (by omega)]; exact Hsame.out i (by omega),Hbut.out.set _ rfl _⟩
      case measure=>simp [intOf] <;> omega
    ·obtain rfl:k=v.length:=by omega
     have hnl:((v.length:Int) < (v.length:Int))=False:=(by simp);obtain ⟨C,hC⟩:∃ C,C=cr+q * v[v.length]?.getD 0:=⟨_,rfl⟩;rw [← hC] at Hst;rw [getD_end (Nat.le_refl _),Nat.mul_zero,Nat.add_zero] at hC;generalize hx:s[v.length]?.getD 0=x at *;have hC2:C < 18446744073709551616:=(by omega);have hCn:C / 4294967296 < 4294967296:=(by omega);have Hcl:Hid (v.length < v.length+1→C / 4294967296=0):=fun _=>by omega
     subst hC;clear hx hlt2;obtain ⟨m,hm⟩:∃ m,m=C % 4294967296:=⟨_,rfl⟩;obtain ⟨cn,hcn⟩:∃ cn,cn=C / 4294967296:=⟨_,rfl⟩;have hmlt:m < 4294967296:=(by omega);have hand:bits .and .u64 (C:Int) 4294967295=(m:Int):=(by rw [hm]; exact and_low C hC2);have hcz:(C:Int) / 4294967296=(cn:Int):=(by omega);rw [← hm,← hcn] at Hst;rw [← hcn] at hCn Hcl;clear hm hcn;by_cases hneg:x < m+b
     ·rw [if_pos hneg] at Hst;go_wp2
      go_roundw
      case rel=>exact ⟨v.length+1,cn,1,s.set v.length ((x+8589934592 - m - b) % 4294967296),by go_num,int_eq (by omega),rfl,by omega,hCn,by omega,Hcl.out,by rw [List.length_set]; exact Hsl.out,q0w Hslim.out (Nat.mod_lt _ (by omega)),Hblk.out.segSet (by rw [Hsl.out]; omega) (by rw [Hsl.out]; omega) (by omega),Hst.out,fun i hi=>by rw [getD_set_ne (by omega)]; exact Hsame.out i (by omega),Hbut.out.set _ rfl _⟩
      case measure=>simp [intOf] <;> omega
     ·rw [if_neg hneg] at Hst;go_wp2
      go_roundw
      case rel=>exact ⟨v.length+1,cn,0,s.set v.length ((x+8589934592 - m - b) % 4294967296),by go_num,int_eq (by omega),rfl,by omega,hCn,by omega,Hcl.out,by rw [List.length_set]; exact Hsl.out,q0w Hslim.out (Nat.mod_lt _ (by omega)),Hblk.out.segSet (by rw [Hsl.out]; omega) (by rw [Hsl.out]; omega) (by omega),Hst.out,fun i hi=>by rw [getD_set_ne (by omega)]; exact Hsame.out i (by omega),Hbut.out.set _ rfl _⟩
      case measure=>simp [intOf] <;> omega
   ·obtain rfl:k=v.length+1:=by omega
    have Hval:Hid (val s+q * val v=val u+b * 4294967296 ^ (v.length+1)):=sub_last Hsl.out Hlu.out (by omega) (Hc0.out (by omega)) Hsum.out;clear Hc0 Hsum Hsame hcr hk hlt;go_wp2
    go_loopw [7,9,10,13] (fun qs bs _ _ w1=>∃ (q b:Nat) (s:List Nat),qs=.int .u64 q∧bs=.int .i64 b∧q < 4294967296∧b≤1∧s.length=v.length+1∧Lim s∧Bx w1 g (seg U j s)∧val s+q * val v=val u+b * 4294967296 ^ (v.length+1)∧val u / val v≤q∧But g w w1) (fun qs _ _ _ _=>(intOf qs).toNat)
    case atStart=>exact ⟨q,b,s,rfl,rfl,hq32,hb1,Hsl.out,Hslim.out,Hblk.out,Hval.out,Hle.out,Hbut.out⟩
    case round=>
     clear Hval Hbut Hblk Hslim Hsl hb1 Hle hq32;obtain ⟨q,b,s,rfl,rfl,hq32,hb1,hsl,hslim,hblk,hsum,hle,hbut⟩:=hrel;have Hsl:=lh hsl;have Hslim:=lh hslim;have Hblk:=lh hblk;have Hsum:=lh hsum;have Hle:=lh hle;have Hbut:=lh hbut;have Hend:=lh (dig_end hsl hslim hb1 hsum hle Hvpos.out);clear hsl hslim hblk hsum hle hbut;by_cases hb0:b=0
     ·subst hb0;have Hfin:=lh (Hend.out.1 rfl);go_wp2
      go_ret
      exact ⟨(congrArg (fun t:Nat=>Ending.returned (.int .u32 (t:Int))) Hfin.out.1).trans (by first | rfl | simp),s,Hsl.out,Hslim.out,Hfin.out.2,Hblk.out,Hbut.out⟩
     ·obtain rfl:b=1:=by omega
      have Hlt1:=lh (Hend.out.2 rfl);have hq0:=Hlt1.out.2;clear Hend hb0;go_wp2
      go_loopw [10,13] (fun cs is w2=>∃ (k cc:Nat) (s2:List Nat),is=.int .i64 k∧cs=.int .u64 cc∧k≤v.length+1∧cc≤1∧s2.length=v.length+1∧Lim s2∧Bx w2 g (seg U j s2)∧pv s2 k+cc * 4294967296 ^ k=pv s k+pv v k∧(∀ i,k≤i→s2[i]?.getD 0=s[i]?.getD 0)∧But g w w2) (fun _ is _=>v.length+1 - (intOf is).toNat)
      case atStart=>exact ⟨0,0,s,rfl,rfl,by omega,by omega,Hsl.out,Hslim.out,Hblk.out,by simp [q1o],fun _ _=>rfl,Hbut.out⟩
      case round=>
       obtain ⟨k,cc,s2,rfl,rfl,hk,hcc,hsl2,hslim2,hblk2,hsum2,hsame2,hbut2⟩:=hrel;have Hs2l:=lh hsl2;have Hs2lim:=lh hslim2;have Hs2b:=lh hblk2;have Hs2sum:=lh hsum2;have Hs2same:=lh hsame2;have Hs2but:=lh hbut2;clear hsl2 hslim2 hblk2 hsum2 hsame2 hbut2;by_cases hlt:k≤v.length
       ·have hx2:=q0f Hs2lim.out k;have hxe:s2[k]?.getD 0=s[k]?.getD 0:=Hs2same.out k (Nat.le_refl _);have hcell:wr.cell? ⟨g,j+k,none⟩=some (.int .u32 (s2[k]?.getD 0:Nat)):=Hs2b.out.segCell (by rw [Hs2l.out]; omega) (by rw [Hs2l.out]; omega);have hfr:wr.frozen? ⟨g,j+k,none⟩=false:=Hs2b.out.frozen _;have Hst:=lh (plus_step (o:=s2) (a:=s) (b:=v) (k:=k) (c:=cc) (by rw [Hs2l.out]; omega) Hs2sum.out);rw [← hxe] at Hst;generalize hx:s2[k]?.getD 0=x at *;clear hx hxe;by_cases hlt2:k < v.length
        ·obtain ⟨b3,o3,e3,hy1⟩:=(Hs.out.but Hf.out Hs2but.out).rd.at_ (k:=k) hlt2;cases e3
         have hy2:=q0f Hs.out.lim k;generalize v[k]?.getD 0=y3 at *;obtain ⟨C,hC⟩:∃ C,C=x+y3+cc:=⟨_,rfl⟩;rw [← hC] at Hst;go_wp2
         go_roundw
         case rel=>exact ⟨k+1,C / 4294967296,s2.set k (C % 4294967296),by go_num,int_eq (by omega),by omega,by omega,by rw [List.length_set]; exact Hs2l.out,q0w Hs2lim.out (Nat.mod_lt _ (by omega)),Hs2b.out.segSet (by rw [Hs2l.out]; omega) (by rw [Hs2l.out]; omega) (by omega),Hst.out,fun i hi=>by rw [getD_set_ne (by omega)]; exact Hs2same.out i (by omega),Hs2but.out.set _ rfl _⟩
         case measure=>simp [intOf] <;> omega
        ·obtain rfl:k=v.length:=by omega
         have hnl:((v.length:Int) < (v.length:Int))=False:=(by simp);obtain ⟨C,hC⟩:∃ C,C=x+v[v.length]?.getD 0+cc:=⟨_,rfl⟩;rw [← hC] at Hst;rw [getD_end (Nat.le_refl _),Nat.add_zero] at hC;go_wp2
         go_roundw
         case rel=>exact ⟨v.length+1,C / 4294967296,s2.set v.length (C % 4294967296),by go_num,int_eq (by omega),by omega,by omega,by rw [List.length_set]; exact Hs2l.out,q0w Hs2lim.out (Nat.mod_lt _ (by omega)),Hs2b.out.segSet (by rw [Hs2l.out]; omega) (by rw [Hs2l.out]; omega) (by omega),Hst.out,fun i hi=>by rw [getD_set_ne (by omega)]; exact Hs2same.out i (by omega),Hs2but.out.set _ rfl _⟩
         case measure=>simp [intOf] <;> omega
       ·obtain rfl:k=v.length+1:=by omega
        have Hbk:=lh (back_step Hsl.out Hslim.out (Nat.lt_of_lt_of_le (val_lt Hs.out.lim) (Nat.pow_le_pow_right (by omega) (Nat.le_succ _))) hq0 Hsum.out (add_last Hs2l.out Hsl.out (by omega) Hs2sum.out));go_wp2
        go_roundw
        case rel=>exact ⟨q - 1,1 - cc,s2,by go_num,by go_num,by omega,by omega,Hs2l.out,Hs2lim.out,Hs2b.out,Hbk.out.2,Hlt1.out.1,Hs2but.out⟩
        case measure=>simp [intOf] <;> omega
end Go.Proofs.YtmepgfigcdeklaaGreat
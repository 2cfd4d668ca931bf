import Derived.Test.YtcpofeehpijbcaaGreatDoorMg4
import Derived.Test.YtcpofeehpijbcaaGreatDoorMg5
set_option maxHeartbeats 4000000
set_option maxRecDepth 100000
namespace Go.Proofs.YtcpofeehpijbcaaGreatDoor
open Lib renaming hid → lh
open Go.RowKit Go.Lib Go.Shelf
attribute [local go_sem ↓] Go.wp_at_zero Go.wp_at_succ
theorem chkC_e {c:CD} (h:chkC c=true) : -9223372036854775808 < c.e:=by
 unfold chkC at h;simp only [Bool.and_eq_true] at h;obtain ⟨h1,h2⟩:=h;by_cases h4:c.kd=4
 ·rw [if_neg (by omega),if_pos h4] at h2;simp only [Bool.and_eq_true] at h2;have h3:=h2.1.2;unfold realB at h3;simp only [Bool.and_eq_true,decide_eq_true_eq] at h3;omega
 ·unfold chkC1 at h1;simp only [Bool.and_eq_true,Bool.not_eq_true'] at h1;have h3:=h1.1.1.2;unfold q0x at h3;simp only [Bool.or_eq_false_iff,Bool.and_eq_false_iff,bne_eq_false_iff_eq] at h3;have h5:=h3.1.1.2;omega
theorem szR_okSh {l:List Int} (h:0≤szR l):okSh l=true:=by
 unfold szR at h;by_cases h0:l=[]
 ·rw [h0]; rfl
 ·rw [if_neg h0] at h
  cases hk:okSh l with
  | true=>rfl
  | false=>rw [hk,if_neg (by decide)] at h; omega
structure VR (b:Int) (sh raw:List Int) (cs:List CD):Prop where
 bw:b=8∨b=16∨b=32∨b=64
 ok:okSh sh=true
 len:(raw.length:Int)=szR sh
 n:cs.length≤150
 fit:∀ x∈raw,fitK b x=true
 all:∀ x∈cs,chkC x=true∧resB x.k=false
theorem VR.of {b:Int} {sh raw:List Int} {cs:List CD} (h:chkR b sh raw cs=true):VR b sh raw cs:=by
 unfold chkR chkR1 at h;simp only [Bool.and_eq_true,Bool.or_eq_true,beq_iff_eq,decide_eq_true_eq] at h;obtain ⟨⟨⟨h1,h2⟩,h3,h4⟩,h5,h6⟩:=h;refine ⟨by rcases h1 with ((h | h) | h) | h <;> simp [h],szR_okSh h2,h3,h4,List.all_eq_true.1 h5,fun x hx=>?_⟩;have h7:=List.all_eq_true.1 h6 x hx;unfold okK9 at h7;simpa using h7
theorem lsize_ok (b:Int) (sh raw:List Int) (cs:List CD) (A1:Option Addr) (B c1:Nat) (hv:VR b sh raw cs) (W:World) (h1:SlI W B A1 sh c1):Calls Tryz.prog 100 #[.agg #[.int .i64 b,.slice A1 sh.length c1]] W fun e w'=>e=.returned (.tuple #[.int .i64 raw.length,.bool true])∧Below W.heap.size W w':=by
 refine (lsize_any sh b A1 B c1 hv.bw W h1).mono ?_;rintro e w' ⟨⟨z,rfl,hz⟩,hb⟩;rw [hv.len,← hz hv.ok,hv.ok];exact ⟨rfl,hb⟩
theorem fit_ok {b:Int} {sh raw:List Int} {cs:List CD} (hv:VR b sh raw cs) {w:World} {B:Nat} {A2:Option Addr} {c2:Nat} (h2:SlI w B A2 raw c2) (k:Nat) (hk:k < raw.length) (A:Option Addr) (n c:Nat) (W:World):Calls Tryz.prog 101 #[.agg #[.int .i64 b,.slice A n c],.int .i64 raw[k]] W fun e w'=>e=.returned (.bool true)∧Below W.heap.size W w':=by
 have h:=h2.lim.at_ hk;refine (fits_any raw[k] b h.1 h.2 A n c hv.bw W).mono ?_;rintro e w' ⟨rfl,hb⟩;rw [hv.fit _ (List.getElem_mem hk)];exact ⟨rfl,hb⟩
theorem fcheck_ok (b:Int) (sh raw:List Int) (cs:List CD) (A1 A2 A3:Option Addr) (B c1 c2 c3:Nat) (w:World) (h1:SlI w B A1 sh c1) (h2:SlI w B A2 raw c2) (h3:SlG w B A3 cs c3) (hv:VR b sh raw cs) (hE:Env w) :
  Calls Tryz.prog 44 #[.agg #[.int .i64 b,.slice A1 sh.length c1,.slice A2 raw.length c2,.slice A3 cs.length c3]] w fun e w'=>e=.returned (.int .i64 0)∧Below w.heap.size w w':=by
 have S2:=lh h2;have S3:=lh h3;have V:=lh hv;have EN:=lh hE;have l2:=h2.len;have l3:=h3.len;have n3:=hv.n;have LS:=lh (fun W (hW:Below w.heap.size w W)=>lsize_ok b sh raw cs A1 B c1 hv W (h1.below hW));have FT:=lh (fun (k:Nat) (hk:k < raw.length) W=>fit_ok hv h2 k hk A1 sh.length c1 W);clear h1 h2 h3 hv hE;have dn:decide (150 < (cs.length:Int))=false:=decide_eq_false (by omega);go_enter Tryz.func44,Tryz.ntmps44
 go_wp2_with fail
 have B1:Hid (Below w.heap.size w (w.alloc (.cells #[.int .i64 b,.slice A1 sh.length c1,.slice A2 raw.length c2,.slice A3 cs.length c3] 53))):=blw1 _ _;have B0:Hid (Below w.heap.size w ((w.alloc (.cells #[.int .i64 b,.slice A1 sh.length c1,.slice A2 raw.length c2,.slice A3 cs.length c3] 53)).alloc (.cells #[.int .i64 b,.slice A1 sh.length c1] 129))):=q0a B1.out (blw1 _ _);have K0:Hid (BlkV ((w.alloc (.cells #[.int .i64 b,.slice A1 sh.length c1,.slice A2 raw.length c2,.slice A3 cs.length c3] 53)).alloc (.cells #[.int .i64 b,.slice A1 sh.length c1] 129)) w.heap.size 53 #[.int .i64 b,.slice A1 sh.length c1,.slice A2 raw.length c2,.slice A3 cs.length c3]):=(BlkV.fresh rfl _ _).keep (blw1 _ _);have L0:Hid (BlkV ((w.alloc (.cells #[.int .i64 b,.slice A1 sh.length c1,.slice A2 raw.length c2,.slice A3 cs.length c3] 53)).alloc (.cells #[.int .i64 b,.slice A1 sh.length c1] 129)) (w.heap.size+1) 129 #[.int .i64 b,.slice A1 sh.length c1]):=BlkV.fresh (by first | exact (nblk_alloc _ _).symm | (simp only [World.alloc,Array.size_push]) | (generalize Obj.cells _ _=oo; simp [World.alloc])) _ _;clear B1;refine (LS.out _ B0.out).mono ?_;rintro xx w1 ⟨rfl,hb⟩;replace B0:=lh (q0a B0.out hb);replace K0:=lh (K0.out.keep hb);replace L0:=lh (L0.out.keep hb);clear hb LS;have e0:=K0.out.at_ 0 rfl;have e1:=K0.out.at_ 1 rfl;have e2:=K0.out.at_ 2 rfl;have e3:=K0.out.at_ 3 rfl;go_wp2_with fail
 clear e0 e1 e2 e3;go_loopw [38] (fun s38 wz=>∃ i:Nat,i≤raw.length∧s38=.int .i64 i∧(BlkV wz w.heap.size 53 #[.int .i64 b,.slice A1 sh.length c1,.slice A2 raw.length c2,.slice A3 cs.length c3])∧(BlkV wz (w.heap.size+1) 129 #[.int .i64 b,.slice A1 sh.length c1])∧Below w.heap.size w wz) (fun v _=>raw.length - (RowKit.intOf v).toNat)
 case atStart=>exact ⟨0,Nat.zero_le _,rfl,K0.out,L0.out,B0.out⟩
 case round=>
  obtain ⟨i,hi,rfl,hk,hl,hb⟩:=hrel;clear K0 L0 B0;have K0:=lh hk;have L0:=lh hl;have B0:=lh hb;clear hk hl hb;by_cases hlt:i < raw.length
  ·have tk:decide ((i:Int) < (raw.length:Int))=true:=decide_eq_true (by omega);have tn:decide ((0:Int)≤(i:Int))=true:=decide_eq_true (by omega);have i2:IntKind.i64.wrap ((i:Int)+1)=(i:Int)+1:=IntWalk.i64_in _ (by omega);have SZ:=lh (S2.out.below B0.out);obtain ⟨bb,q,rfl,-,q0⟩:=SZ.out.at_ hlt;have FX:=lh (FT.out i hlt);clear SZ FT;generalize raw[i]=x at *;have e0:=L0.out.at_ 0 rfl;have e1:=L0.out.at_ 1 rfl;go_wp2_with fail
   clear e0 e1 q0;refine (FX.out _).mono ?_;rintro xx w1 ⟨rfl,hb⟩;replace B0:=lh (q0a B0.out hb);replace K0:=lh (K0.out.keep hb);replace L0:=lh (L0.out.keep hb);clear hb FX;go_wp2
   go_roundw
   case rel=>exact ⟨i+1,by omega,by go_num,K0.out,L0.out,B0.out⟩
   case measure=>simp [RowKit.intOf]; omega
  ·have tk:decide ((i:Int) < (raw.length:Int))=false:=decide_eq_false (by omega);have e0:=K0.out.at_ 0 rfl;have e1:=K0.out.at_ 1 rfl;have e2:=K0.out.at_ 2 rfl;have e3:=K0.out.at_ 3 rfl;go_wp2_with fail
   clear e0 e1 e2 e3 tk hlt hi K0 L0;go_loopw [50] (fun s50 wz=>∃ i:Nat,i≤cs.length∧s50=.int .i64 i∧Below w.heap.size w wz) (fun v _=>cs.length - (RowKit.intOf v).toNat)
   case atStart=>exact ⟨0,Nat.zero_le _,rfl,B0.out⟩
   case round=>
    obtain ⟨j,hi,rfl,hb⟩:=hrel;clear B0;have B0:=lh hb;clear hb;by_cases hlt:j < cs.length
    ·have tk:decide ((j:Int) < (cs.length:Int))=true:=decide_eq_true (by omega);have tn:decide ((0:Int)≤(j:Int))=true:=decide_eq_true (by omega);have i2:IntKind.i64.wrap ((j:Int)+1)=(j:Int)+1:=IntWalk.i64_in _ (by omega);have SZ:=lh (S3.out.below B0.out);obtain ⟨bb,q,rfl,-,q0,q1,q2,q3,q4,q5,q6,og⟩:=SZ.out.at_ hlt;have vx:=lh (V.out.all _ (List.getElem_mem hlt));clear SZ;generalize cs[j]=x at *;go_wp2_with fail
     clear q0 q1 q2 q3 q4 q5 q6;have K0:Hid (BlkV (wr.alloc (.cells #[.string ⟨x.k.toArray⟩,.int .u8 x.kd,.bool x.y,.int .i64 x.n,.int .i64 x.e,.string ⟨x.t.toArray⟩,.string ⟨x.o.toArray⟩] 31)) wr.heap.size 31 #[.string ⟨x.k.toArray⟩,.int .u8 x.kd,.bool x.y,.int .i64 x.n,.int .i64 x.e,.string ⟨x.t.toArray⟩,.string ⟨x.o.toArray⟩]):=BlkV.fresh rfl _ _;replace B0:=lh (q0a B0.out (blw1 wr (.cells #[.string ⟨x.k.toArray⟩,.int .u8 x.kd,.bool x.y,.int .i64 x.n,.int .i64 x.e,.string ⟨x.t.toArray⟩,.string ⟨x.o.toArray⟩] 31)));generalize wr.alloc (.cells #[.string ⟨x.k.toArray⟩,.int .u8 x.kd,.bool x.y,.int .i64 x.n,.int .i64 x.e,.string ⟨x.t.toArray⟩,.string ⟨x.o.toArray⟩] 31)=wq at *;refine (kcheck_any x og.ok og.o og.t (chkC_e vx.out.1) _ (EN.out.keep B0.out)).mono ?_;rintro xx w1 ⟨rfl,hb⟩;replace B0:=lh (q0a B0.out hb);replace K0:=lh (K0.out.keep hb);clear hb;rw [vx.out.1];have e0:=K0.out.at_ 0 rfl;go_wp2_with fail
     refine (reserved_any x.k _).mono ?_;rintro xx w2 ⟨rfl,hb⟩;replace B0:=lh (q0a B0.out hb);clear hb e0 K0;rw [vx.out.2];go_wp2
     go_roundw
     case rel=>exact ⟨j+1,by omega,by go_num,B0.out⟩
     case measure=>simp [RowKit.intOf]; omega
    ·have tk:decide ((j:Int) < (cs.length:Int))=false:=decide_eq_false (by omega);go_wp2
     go_ret
     exact ⟨rfl,B0.out⟩
def greatG9 (sh raw:List Int) (cs:List CD):Bool:=decide (10 < sh.length) || (decide (60 < raw.length) || greatK cs)
structure FrC (w:World) (B bb q:Nat) (b:Int) (sh raw:List Int) (cs:List CD) (A1 A2 A3:Option Addr) (c1 c2 c3:Nat):Prop where
 lt:bb < B
 f0:w.cell? ⟨bb,q,none⟩=some (.int .i64 b)
 f1:w.cell? ⟨bb,q+1,none⟩=some (.slice A1 sh.length c1)
 f2:w.cell? ⟨bb,q+2,none⟩=some (.slice A2 raw.length c2)
 f3:w.cell? ⟨bb,q+3,none⟩=some (.slice A3 cs.length c3)
 h1:SlI w B A1 sh c1
 h2:SlI w B A2 raw c2
 h3:SlY w B A3 cs c3
theorem FrC.below {w w':World} {B bb q:Nat} {b:Int} {sh raw:List Int} {cs:List CD} {A1 A2 A3:Option Addr} {c1 c2 c3:Nat} (h:FrC w B bb q b sh raw cs A1 A2 A3 c1 c2 c3) (hb:Below w.heap.size w w'):FrC w' B bb q b sh raw cs A1 A2 A3 c1 c2 c3:=
 ⟨h.lt,q0b hb h.f0,q0b hb h.f1,q0b hb h.f2,q0b hb h.f3,h.h1.below hb,h.h2.below hb,h.h3.below hb⟩
theorem rgreat9_one (b:Int) (sh raw:List Int) (cs:List CD) (A1 A2 A3:Option Addr) (B bb q c1 c2 c3 c:Nat) (w:World) (h:FrC w B bb q b sh raw cs A1 A2 A3 c1 c2 c3) :
  Calls Tryz.prog 24 #[.slice (some ⟨bb,q,none⟩) 1 c] w fun e w'=>e=.returned (.bool (greatG9 sh raw cs))∧Below w.heap.size w w':=by
 have F:=lh h;have l1:=h.h1.len;have l2:=h.h2.len;have GX:Hid (greatG9 sh raw cs=(decide (10 < sh.length) || (decide (60 < raw.length) || greatK cs))):=rfl;clear h;generalize greatG9 sh raw cs=G at *;go_enter Tryz.func24,Tryz.ntmps24
 go_wp2_with fail
 go_loopw [3] (fun s3 wz=>∃ i:Nat,i≤1∧s3=.int .i64 i∧(i=1→G=false)∧Below w.heap.size w wz) (fun v _=>1 - (RowKit.intOf v).toNat)
 case atStart=>exact ⟨0,Nat.zero_le _,rfl,fun h=>absurd h (by decide),Below.refl _ _⟩
 case round=>
  obtain ⟨i,hi,rfl,ha,hb⟩:=hrel;have HA:=lh ha;have B0:=lh hb;clear ha hb;by_cases hlt:i=0
  ·subst hlt;clear HA hi;have F2:=lh (F.out.below B0.out);have q1:=F2.out.f1;have q2:=F2.out.f2;have q3:=F2.out.f3;by_cases g1:10 < sh.length
   ·have d1:decide ((10:Int) < (sh.length:Int))=true:=decide_eq_true (by omega);have hG:Hid (G=true):=(by unfold Hid; rw [GX.out]; simp [g1]);go_wp2
    go_ret
    exact ⟨by rw [hG.out]; rfl,B0.out⟩
   ·have d1:decide ((10:Int) < (sh.length:Int))=false:=decide_eq_false (by omega);by_cases g2:60 < raw.length
    ·have d2:decide ((60:Int) < (raw.length:Int))=true:=decide_eq_true (by omega);have hG:Hid (G=true):=(by unfold Hid; rw [GX.out]; simp [g2]);go_wp2
     go_ret
     exact ⟨by rw [hG.out]; rfl,B0.out⟩
    ·have d2:decide ((60:Int) < (raw.length:Int))=false:=decide_eq_false (by omega);have e1:=decide_eq_false g1;have e2:=decide_eq_false g2;go_wp2_with fail
     refine (rgreat8_any cs A3 B c3 _ F2.out.h3).mono ?_;rintro xx w1 ⟨rfl,hb⟩;replace B0:=lh (q0a B0.out hb);clear hb q1 q2 q3 F2;rw [e1,e2,Bool.false_or,Bool.false_or] at GX;generalize greatK cs=gk at *
     cases gk with
     | true=>
      go_wp2
      go_ret
      exact ⟨by rw [GX.out]; rfl,B0.out⟩
     | false=>
      go_wp2
      go_roundw
      case rel=>exact ⟨1,by omega,rfl,fun _=>GX.out,B0.out⟩
      case measure=>decide
  ·obtain rfl:i=1:=by omega
   have hG:=lh (HA.out rfl);clear HA;go_wp2
   go_ret
   exact ⟨by rw [hG.out]; rfl,B0.out⟩
end Go.Proofs.YtcpofeehpijbcaaGreatDoor
import Derived.Test.YtcpofeehpijbcaaGreatDoorMg10
import Derived.Test.YtcpofeehpijbcaaGreatDoorRf14
set_option maxHeartbeats 4000000
set_option maxRecDepth 100000
namespace Go.Proofs.YtcpofeehpijbcaaGreatDoor
open Lib renaming hid → lh
open Go.RowKit Go.Lib Go.Shelf
attribute [local go_sem ↓] Go.wp_at_zero Go.wp_at_succ
def fndK (key:List UInt8) (cs:List CD):Option Nat:=cs.findIdx? (fun x=>x.k == key)
def fndZ (key:List UInt8) (cs:List CD):Int:=match fndK key cs with | some i=>(i:Int) | none=>-1
theorem fnd_some {key:List UInt8} {cs:List CD} {k:Nat} (hk:k < cs.length) (h1:∀ j (h:j < cs.length),j < k→(cs[j].k == key)=false) (h2:(cs[k].k == key)=true):fndK key cs=some k:=by
 unfold fndK;rw [List.findIdx?_eq_some_iff_getElem];exact ⟨hk,h2,fun j hj=>by rw [h1 j (by omega) hj]; simp⟩
theorem fnd_none {key:List UInt8} {cs:List CD} (h1:∀ j (h:j < cs.length),(cs[j].k == key)=false):fndK key cs=none:=by
 unfold fndK;rw [List.findIdx?_eq_none_iff];intro x hx;obtain ⟨j,hj,rfl⟩:=List.mem_iff_getElem.1 hx;exact h1 j hj
theorem find1_any (x:CD) (key:List UInt8) (g:Nat) (w:World) (h0:w.cell? ⟨g,0,none⟩=some (.string ⟨key.toArray⟩)) :
  Calls Tryz.prog 62 #[.agg #[.string ⟨x.k.toArray⟩,.int .u8 x.kd,.bool x.y,.int .i64 x.n,.int .i64 x.e,.string ⟨x.t.toArray⟩,.string ⟨x.o.toArray⟩],.pointer (some ⟨g,0,none⟩)] w fun e w'=>e=.returned (.bool (x.k == key))∧Below w.heap.size w w':=by
 have hg:g < w.heap.size:=lt_of_cell (a:=⟨g,0,none⟩) h0;go_enter Tryz.func62,Tryz.ntmps62
 go_wp2
 go_ret
 exact ⟨rfl,blw1 _ _⟩
theorem indexC_any (cs:List CD) (key:List UInt8) (A:Option Addr) (B c g:Nat) (w:World) (hs:SlG w B A cs c) (h0:w.cell? ⟨g,0,none⟩=some (.string ⟨key.toArray⟩)) :
  Calls Tryz.prog 61 #[.slice A cs.length c,.func (.func 62) #[] #[.pointer (some ⟨g,0,none⟩)]] w fun e w'=>e=.returned (.int .i64 (fndZ key cs))∧Below w.heap.size w w':=by
 have hm:=hs.len;have S:=lh hs;have C0:=lh h0;have FS:=lh (fun k h a b=>@fnd_some key cs k h a b);have FN:=lh (fun a=>@fnd_none key cs a);have F1:=lh (fun x W h=>find1_any x key g W h);have ZS:Hid (∀ k:Nat,fndK key cs=some k→fndZ key cs=(k:Int)):=fun k h=>by unfold fndZ; rw [h]
 have ZN:Hid (fndK key cs=none→fndZ key cs = -1):=fun h=>by unfold fndZ; rw [h]
 clear hs h0;generalize fndZ key cs=Z at *;go_enter Tryz.func61,Tryz.ntmps61
 go_wp2
 go_loopw [8] (fun s8 wr=>∃ k:Nat,k≤cs.length∧s8=.int .i64 k∧(∀ j (h:j < cs.length),j < k→(cs[j].k == key)=false)∧Below w.heap.size w wr) (fun v _=>cs.length - (RowKit.intOf v).toNat)
 case atStart=>exact ⟨0,Nat.zero_le _,rfl,fun j h hj=>absurd hj (by omega),Below.refl _ _⟩
 case round=>
  obtain ⟨k,hk,rfl,ha,hb⟩:=hrel;have HA:=lh ha;have B0:=lh hb;clear ha hb;by_cases hlt:k < cs.length
  ·have tk':decide ((k:Int) < (cs.length:Int))=true:=decide_eq_true (by omega);have tn:decide ((0:Int)≤(k:Int))=true:=decide_eq_true (by omega);have i2:IntKind.i64.wrap ((k:Int)+1)=(k:Int)+1:=IntWalk.i64_in _ (by omega);have S2:=lh (S.out.below B0.out);obtain ⟨b,q,rfl,-,q0,q1,q2,q3,q4,q5,q6,-⟩:=S2.out.at_ hlt;have FK:=lh (FS.out k hlt HA.out)
   have HA2:Hid ((cs[k].k == key)=false→∀ j (h:j < cs.length),j < k+1→(cs[j].k == key)=false):=fun hk0 j h hj=>by
    by_cases e:j=k
    ·subst e; exact hk0
    ·exact HA.out j h (by omega)
   clear S2;generalize cs[k]=x at *;go_wp2_with fail
   refine (F1.out x _ (q0b B0.out C0.out)).mono ?_;rintro e w1 ⟨rfl,hb⟩;replace B0:=lh (q0a B0.out hb);clear hb q0 q1 q2 q3 q4 q5 q6
   cases hq:(x.k == key) with
   | true=>
    have hz:=lh (ZS.out k (FK.out hq));go_wp2
    go_ret
    exact ⟨by rw [hz.out]; rfl,B0.out⟩
   | false=>
    have h2:=lh (HA2.out hq);go_wp2
    go_roundw
    case rel=>exact ⟨k+1,by omega,by go_num,h2.out,B0.out⟩
    case measure=>simp [RowKit.intOf]; omega
  ·have tk':decide ((k:Int) < (cs.length:Int))=false:=decide_eq_false (by omega);have hz:=lh (ZN.out (FN.out (fun j h=>HA.out j h (by omega))));go_wp2
   go_ret
   exact ⟨by rw [hz.out]; rfl,B0.out⟩
theorem find_any (cs:List CD) (key:List UInt8) (A:Option Addr) (B c:Nat) (w:World) (hs:SlG w B A cs c) :
  Calls Tryz.prog 17 #[.slice A cs.length c,.string ⟨key.toArray⟩] w fun e w'=>e=.returned (.tuple #[.int .i64 ((fndK key cs).getD 0:Nat),.int .i64 (if (fndK key cs).isSome then 0 else 6)])∧Below w.heap.size w w':=by
 have S:=lh (hs.below (blw1 w (.cells #[.string ⟨key.toArray⟩] 9)));have B0:Hid (Below w.heap.size w (w.alloc (.cells #[.string ⟨key.toArray⟩] 9))):=blw1 _ _;have K0:Hid (BlkV (w.alloc (.cells #[.string ⟨key.toArray⟩] 9)) w.heap.size 9 #[.string ⟨key.toArray⟩]):=BlkV.fresh rfl _ _;have IC:=lh (fun W h g=>indexC_any cs key A B c w.heap.size W h g);have ZD:Hid (fndZ key cs=match fndK key cs with | some i=>(i:Int) | none=>-1):=rfl;clear hs;generalize fndZ key cs=Z at *
 cases hf:fndK key cs with
 | none=>
  rw [hf] at ZD;dsimp only at ZD;have hz:=ZD.out;subst hz;clear ZD hf;go_enter Tryz.func17,Tryz.ntmps17
  go_wp2_with fail
  generalize w.alloc (.cells #[.string ⟨key.toArray⟩] 9)=w0 at *;refine (IC.out _ S.out (K0.out.at_ 0 rfl)).mono ?_;rintro e w1 ⟨rfl,hb⟩;replace B0:=lh (q0a B0.out hb);clear hb;go_wp2
  go_ret2
  exact ⟨rfl,B0.out⟩
 | some i=>
  rw [hf] at ZD;dsimp only at ZD;have hz:=ZD.out;subst hz;clear ZD hf;have ti:decide ((i:Int) < 0)=false:=decide_eq_false (by omega);go_enter Tryz.func17,Tryz.ntmps17
  go_wp2_with fail
  generalize w.alloc (.cells #[.string ⟨key.toArray⟩] 9)=w0 at *;refine (IC.out _ S.out (K0.out.at_ 0 rfl)).mono ?_;rintro e w1 ⟨rfl,hb⟩;replace B0:=lh (q0a B0.out hb);clear hb;go_wp2
  go_ret2
  exact ⟨rfl,B0.out⟩
theorem fconst_found (cs:List CD) (key k t o:List UInt8) (y:Bool) (n m:Int) (j:Nat) (hj:j < cs.length) (hf:fndK key cs=some j) (hx:cs[j]=⟨k,3,y,n,0,t,o⟩) (hv:chkC cs[j]=true) (A:Option Addr) (B c:Nat) (w:World) (hs:SlG w B A cs c) (hE:Env w) :
  Calls Tryz.prog 78 #[.slice A cs.length c,.string ⟨key.toArray⟩,.int .i64 m] w (FRes (frQ (n:Rat),0) w):=by
 have S:=lh hs;have EN:=lh hE;have l3:=hs.len;have FI:=lh (fun W (hW:Below w.heap.size w W)=>find_any cs key A B c W (hs.below hW));rw [hf] at FI;have og:=hs.all _ (List.getElem_mem hj);rw [hx] at hv og;have CV:=lh (fun W (hW:Below w.heap.size w W)=>cvalue_walk k t o y n og hv W (hE.keep hW));have HX:=lh hx;clear hs hE hf hv og hx;have tj:decide ((j:Int) < (cs.length:Int))=true:=decide_eq_true (by omega);have tn:decide ((0:Int)≤(j:Int))=true:=decide_eq_true (by omega);go_enter Tryz.func78,Tryz.ntmps78
 go_wp2_with fail
 have B0:Hid (Below w.heap.size w (w.alloc (.cells #[.bool false,.slice none 0 0,.bool false,.slice none 0 0] 43))):=blw1 _ _;have Q0:Hid (BlkV (w.alloc (.cells #[.bool false,.slice none 0 0,.bool false,.slice none 0 0] 43)) w.heap.size 43 #[.bool false,.slice none 0 0,.bool false,.slice none 0 0]):=BlkV.fresh rfl _ _;refine (FI.out _ B0.out).mono ?_;rintro xx w1 ⟨rfl,hb⟩;replace B0:=lh (q0a B0.out hb);replace Q0:=lh (Q0.out.keep hb);clear hb FI;have S2:=lh (S.out.below B0.out);obtain ⟨bb,q,rfl,-,q0,q1,q2,q3,q4,q5,q6,-⟩:=S2.out.at_ hj;rw [HX.out] at q0 q1 q2 q3 q4 q5 q6;clear S2 HX;go_wp2_with fail
 refine (CV.out _ B0.out).mono ?_;rintro xx w2 ⟨A3,c3,B3,d3,rfl,hs3,ht3,hb⟩;dsimp only;have B3_:Hid (Below w.heap.size w (w2.alloc (.cells #[.bool (frQ (n:Rat)).1.1,.slice A3 (frQ (n:Rat)).1.2.length c3,.bool (frQ (n:Rat)).2.1,.slice B3 (frQ (n:Rat)).2.2.length d3] 43))):=q0a (q0a B0.out hb) (blw1 _ _);have Q3:Hid (BlkV (w2.alloc (.cells #[.bool (frQ (n:Rat)).1.1,.slice A3 (frQ (n:Rat)).1.2.length c3,.bool (frQ (n:Rat)).2.1,.slice B3 (frQ (n:Rat)).2.2.length d3] 43)) w.heap.size 43 #[.bool false,.slice none 0 0,.bool false,.slice none 0 0]):=(Q0.out.keep hb).alloc _;have SA:Hid (Sl (w2.alloc (.cells #[.bool (frQ (n:Rat)).1.1,.slice A3 (frQ (n:Rat)).1.2.length c3,.bool (frQ (n:Rat)).2.1,.slice B3 (frQ (n:Rat)).2.2.length d3] 43)) A3 (frQ (n:Rat)).1.2 c3):=hs3.alloc _;have SB:Hid (Sl (w2.alloc (.cells #[.bool (frQ (n:Rat)).1.1,.slice A3 (frQ (n:Rat)).1.2.length c3,.bool (frQ (n:Rat)).2.1,.slice B3 (frQ (n:Rat)).2.2.length d3] 43)) B3 (frQ (n:Rat)).2.2 d3):=ht3.alloc _;clear hb hs3 ht3 B0 Q0 CV q0 q1 q2 q3 q4 q5 q6 EN S;have cf0:=Q3.out.at_ 0 rfl;have cf1:=Q3.out.at_ 1 rfl;have cf2:=Q3.out.at_ 2 rfl;have cf3:=Q3.out.at_ 3 rfl;have f0:=Q3.out.frozen 0;have f1:=Q3.out.frozen 1;have f2:=Q3.out.frozen 2;have f3:=Q3.out.frozen 3;have PB:=lh ((((B3_.out.setCell (p:=⟨w.heap.size,0,none⟩) (Nat.le_refl _) (.bool (frQ (n:Rat)).1.1)).setCell (p:=⟨w.heap.size,1,none⟩) (Nat.le_refl _) (.slice A3 (frQ (n:Rat)).1.2.length c3)).setCell (p:=⟨w.heap.size,2,none⟩) (Nat.le_refl _) (.bool (frQ (n:Rat)).2.1)).setCell (p:=⟨w.heap.size,3,none⟩) (Nat.le_refl _) (.slice B3 (frQ (n:Rat)).2.2.length d3));have PN:=lh ((((Q3.out.put 0 (.bool (frQ (n:Rat)).1.1) rfl).put 1 (.slice A3 (frQ (n:Rat)).1.2.length c3) rfl).put 2 (.bool (frQ (n:Rat)).2.1) rfl).put 3 (.slice B3 (frQ (n:Rat)).2.2.length d3) rfl);have PA:=lh (SA.out.setF ⟨cf0,cf1,cf2,cf3⟩ (.bool (frQ (n:Rat)).1.1) (.slice A3 (frQ (n:Rat)).1.2.length c3) (.bool (frQ (n:Rat)).2.1) (.slice B3 (frQ (n:Rat)).2.2.length d3));have PC:=lh (SB.out.setF ⟨cf0,cf1,cf2,cf3⟩ (.bool (frQ (n:Rat)).1.1) (.slice A3 (frQ (n:Rat)).1.2.length c3) (.bool (frQ (n:Rat)).2.1) (.slice B3 (frQ (n:Rat)).2.2.length d3));have r0:=PN.out.at_ 0 rfl;have r1:=PN.out.at_ 1 rfl;have r2:=PN.out.at_ 2 rfl;have r3:=PN.out.at_ 3 rfl;go_wp2
 exact bodyPost_ret (v:=.tuple #[.agg #[.bool (frQ (n:Rat)).1.1,.slice A3 (frQ (n:Rat)).1.2.length c3,.bool (frQ (n:Rat)).2.1,.slice B3 (frQ (n:Rat)).2.2.length d3],.int .i64 0]) (by simp [results,Tryz.results78,go_sem,r0,r1,r2,r3]) rfl ⟨A3,c3,B3,d3,rfl,PA.out,PC.out,PB.out⟩
end Go.Proofs.YtcpofeehpijbcaaGreatDoor
import Derived.Test.YtcpofeehpijbcaaGreatDoorMg5
set_option maxHeartbeats 4000000
set_option maxRecDepth 100000
namespace Go.Proofs.YtcpofeehpijbcaaGreatDoor
open Lib renaming hid → lh
open Go.RowKit Go.Lib Go.Shelf
attribute [local go_sem ↓] Go.wp_at_zero Go.wp_at_succ
def fndK (key:List UInt8) (cs:List CD):Option Nat:=cs.findIdx? (fun x=>x.k == key)
def fndZ (key:List UInt8) (cs:List CD):Int:=match fndK key cs with | some i=>(i:Int) | none=>-1
theorem fnd_some {key:List UInt8} {cs:List CD} {k:Nat} (hk:k < cs.length) (h1:∀ j (h:j < cs.length),j < k→(cs[j].k == key)=false) (h2:(cs[k].k == key)=true):fndK key cs=some k:=by
 unfold fndK;rw [List.findIdx?_eq_some_iff_getElem];exact ⟨hk,h2,fun j hj=>by rw [h1 j (by omega) hj]; simp⟩
theorem fnd_none {key:List UInt8} {cs:List CD} (h1:∀ j (h:j < cs.length),(cs[j].k == key)=false):fndK key cs=none:=by
 unfold fndK;rw [List.findIdx?_eq_none_iff];intro x hx;obtain ⟨j,hj,rfl⟩:=List.mem_iff_getElem.1 hx;exact h1 j hj
theorem find1_any (x:CD) (key:List UInt8) (g:Nat) (w:World) (h0:w.cell? ⟨g,0,none⟩=some (.string ⟨key.toArray⟩)) :
  Calls Tryz.prog 62 #[.agg #[.string ⟨x.k.toArray⟩,.int .u8 x.kd,.bool x.y,.int .i64 x.n,.int .i64 x.e,.string ⟨x.t.toArray⟩,.string ⟨x.o.toArray⟩],.pointer (some ⟨g,0,none⟩)] w fun e w'=>e=.returned (.bool (x.k == key))∧Below w.heap.size w w':=by
 have hg:g < w.heap.size:=lt_of_cell (a:=⟨g,0,none⟩) h0;go_enter Tryz.func62,Tryz.ntmps62
 go_wp2
 go_ret
 exact ⟨rfl,blw1 _ _⟩
theorem indexC_any (cs:List CD) (key:List UInt8) (A:Option Addr) (B c g:Nat) (w:World) (hs:SlG w B A cs c) (h0:w.cell? ⟨g,0,none⟩=some (.string ⟨key.toArray⟩)) :
  Calls Tryz.prog 61 #[.slice A cs.length c,.func (.func 62) #[] #[.pointer (some ⟨g,0,none⟩)]] w fun e w'=>e=.returned (.int .i64 (fndZ key cs))∧Below w.heap.size w w':=by
 have hm:=hs.len;have S:=lh hs;have C0:=lh h0;have FS:=lh (fun k h a b=>@fnd_some key cs k h a b);have FN:=lh (fun a=>@fnd_none key cs a);have F1:=lh (fun x W h=>find1_any x key g W h);have ZS:Hid (∀ k:Nat,fndK key cs=some k→fndZ key cs=(k:Int)):=fun k h=>by unfold fndZ; rw [h]
 have ZN:Hid (fndK key cs=none→fndZ key cs = -1):=fun h=>by unfold fndZ; rw [h]
 clear hs h0;generalize fndZ key cs=Z at *;go_enter Tryz.func61,Tryz.ntmps61
 go_wp2
 go_loopw [8] (fun s8 wr=>∃ k:Nat,k≤cs.length∧s8=.int .i64 k∧(∀ j (h:j < cs.length),j < k→(cs[j].k == key)=false)∧Below w.heap.size w wr) (fun v _=>cs.length - (RowKit.intOf v).toNat)
 case atStart=>exact ⟨0,Nat.zero_le _,rfl,fun j h hj=>absurd hj (by omega),Below.refl _ _⟩
 case round=>
  obtain ⟨k,hk,rfl,ha,hb⟩:=hrel;have HA:=lh ha;have B0:=lh hb;clear ha hb;by_cases hlt:k < cs.length
  ·have tk:decide ((k:Int) < (cs.length:Int))=true:=decide_eq_true (by omega);have tn:decide ((0:Int)≤(k:Int))=true:=decide_eq_true (by omega);have i2:IntKind.i64.wrap ((k:Int)+1)=(k:Int)+1:=IntWalk.i64_in _ (by omega);have S2:=lh (S.out.below B0.out);obtain ⟨b,q,rfl,-,q0,q1,q2,q3,q4,q5,q6,-⟩:=S2.out.at_ hlt;have FK:=lh (FS.out k hlt HA.out)
   have HA2:Hid ((cs[k].k == key)=false→∀ j (h:j < cs.length),j < k+1→(cs[j].k == key)=false):=fun hk0 j h hj=>by
    by_cases e:j=k
    ·subst e; exact hk0
    ·exact HA.out j h (by omega)
   clear S2;generalize cs[k]=x at *;go_wp2_with fail
   refine (F1.out x _ (q0b B0.out C0.out)).mono ?_;rintro e w1 ⟨rfl,hb⟩;replace B0:=lh (q0a B0.out hb);clear hb q0 q1 q2 q3 q4 q5 q6
   cases hq:(x.k == key) with
   | true=>
    have hz:=lh (ZS.out k (FK.out hq));go_wp2
    go_ret
    exact ⟨by rw [hz.out]; rfl,B0.out⟩
   | false=>
    have h2:=lh (HA2.out hq);go_wp2
    go_roundw
    case rel=>exact ⟨k+1,by omega,by go_num,h2.out,B0.out⟩
    case measure=>simp [RowKit.intOf]; omega
  ·have tk:decide ((k:Int) < (cs.length:Int))=false:=decide_eq_false (by omega);have hz:=lh (ZN.out (FN.out (fun j h=>HA.out j h (by omega))));go_wp2
   go_ret
   exact ⟨by rw [hz.out]; rfl,B0.out⟩
theorem find_any (cs:List CD) (key:List UInt8) (A:Option Addr) (B c:Nat) (w:World) (hs:SlG w B A cs c) :
  Calls Tryz.prog 17 #[.slice A cs.length c,.string ⟨key.toArray⟩] w fun e w'=>e=.returned (.tuple #[.int .i64 ((fndK key cs).getD 0:Nat),.int .i64 (if (fndK key cs).isSome then 0 else 6)])∧Below w.heap.size w w':=by
 have S:=lh (hs.below (blw1 w (.cells #[.string ⟨key.toArray⟩] 9)));have B0:Hid (Below w.heap.size w (w.alloc (.cells #[.string ⟨key.toArray⟩] 9))):=blw1 _ _;have K0:Hid (BlkV (w.alloc (.cells #[.string ⟨key.toArray⟩] 9)) w.heap.size 9 #[.string ⟨key.toArray⟩]):=BlkV.fresh rfl _ _;have IC:=lh (fun W h g=>indexC_any cs key A B c w.heap.size W h g);have ZD:Hid (fndZ key cs=match fndK key cs with | some i=>(i:Int) | none=>-1):=rfl;clear hs;generalize fndZ key cs=Z at *
 cases hf:fndK key cs with
 | none=>
  rw [hf] at ZD;dsimp only at ZD;have hz:=ZD.out;subst hz;clear ZD hf;go_enter Tryz.func17,Tryz.ntmps17
  go_wp2_with fail
  generalize w.alloc (.cells #[.string ⟨key.toArray⟩] 9)=w0 at *;refine (IC.out _ S.out (K0.out.at_ 0 rfl)).mono ?_;rintro e w1 ⟨rfl,hb⟩;replace B0:=lh (q0a B0.out hb);clear hb;go_wp2
  go_ret2
  exact ⟨rfl,B0.out⟩
 | some i=>
  rw [hf] at ZD;dsimp only at ZD;have hz:=ZD.out;subst hz;clear ZD hf;have ti:decide ((i:Int) < 0)=false:=decide_eq_false (by omega);go_enter Tryz.func17,Tryz.ntmps17
  go_wp2_with fail
  generalize w.alloc (.cells #[.string ⟨key.toArray⟩] 9)=w0 at *;refine (IC.out _ S.out (K0.out.at_ 0 rfl)).mono ?_;rintro e w1 ⟨rfl,hb⟩;replace B0:=lh (q0a B0.out hb);clear hb;go_wp2
  go_ret2
  exact ⟨rfl,B0.out⟩
end Go.Proofs.YtcpofeehpijbcaaGreatDoor
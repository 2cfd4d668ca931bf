import Derived.Test.YtgnjhlnolihgcaaGreatW6
import Derived.Test.YtgnjhlnolihgcaaGreatW30
import Derived.Test.YtgnjhlnolihgcaaGreatMathZ
import Derived.Deep.LoopGhost
import Derived.BigQuiet
import Derived.Deep.QuietTactic
import Derived.Deep.RegionHeld3
set_option maxHeartbeats 2000000
set_option maxRecDepth 100000
namespace Go.Proofs.YtgnjhlnolihgcaaGreat
open Lib renaming hid → lh
open Go.RowKit
attribute [local go_sem ↓] Go.wp_at_zero Go.wp_at_succ
end Go.Proofs.YtgnjhlnolihgcaaGreat
namespace Go.Proofs.YtgnjhlnolihgcaaGreat
open Lib renaming hid → lh
open Go.RowKit
attribute [local go_sem ↓] Go.wp_at_zero Go.wp_at_succ
theorem wgcd_any (n1 n2:Bool) (A1 A2:Option Addr) (l1 l2:List Nat) (c1 c2:Nat) (w:World) (hs1:Sl w A1 l1 c1) (hs2:Sl w A2 l2 c2) :
  Calls Tryz.prog 123 #[.agg #[.bool n1,.slice A1 l1.length c1],.agg #[.bool n2,.slice A2 l2.length c2]] w (WRes (gcdS n1 l1 n2 l2) w):=by
 have Hs1:=lh hs1;have Hs2:=lh hs2;clear hs1 hs2;cases hbad:badL n1 l1 || badL n2 l2
 ·have hg:=Bool.or_eq_false_iff.1 hbad;obtain ⟨k1,m1,p1⟩:=q0k Hs1.out.lim hg.1;obtain ⟨k2,m2,p2⟩:=q0k Hs2.out.lim hg.2;have Hk1:=lh k1;have Hk2:=lh k2;have hc:=chk2_good hbad
  have Hres:Hid (outN false (Nat.gcd (val l1) (val l2))=gcdS n1 l1 n2 l2):=by
   unfold Hid gcdS;rw [hbad,if_neg (by simp)]
  generalize gcdS n1 l1 n2 l2=r at *;obtain ⟨G,hG⟩:∃ G,G=Nat.gcd (val l1) (val l2):=⟨_,rfl⟩;have HG:Hid (Nat.gcd (val l1) (val l2)=G):=hG.symm;rw [← hG] at Hres;clear hg hbad k1 k2 p1 p2 hG;go_enter Tryz.func123,Tryz.ntmps123
  go_wp2_with fail
  refine (q0h _ [⟨n1,A1,l1,c1⟩,⟨n2,A2,l2,c2⟩] (by simp) _ ?hc).mono ?_
  case hc=>exact Wcs.two (((Hs1.out.alloc _).alloc _).alloc _) (((Hs2.out.alloc _).alloc _).alloc _) (by simp)
  rintro e w1 ⟨rfl,hb⟩;rw [q1i];have K1:Hid (Cw w1 w.heap.size n1 A1 l1.length c1):=⟨q0b hb (by go_simp),q0b hb (by go_simp)⟩;have K2:Hid (Cw w1 (w.heap.size+1) n2 A2 l2.length c2):=⟨q0b hb (by go_simp),q0b hb (by go_simp)⟩;have R:Hid (Cw w1 (w.heap.size+1+1) false none 0 0):=⟨q0b hb (by go_simp),q0b hb (by go_simp)⟩;have F:Hid (Fw w1 (w.heap.size+1+1)):=⟨(hb.frozen (by simp <;> omega)).trans (by go_simp),(hb.frozen (by simp <;> omega)).trans (by go_simp)⟩;have B:Hid (Below w.heap.size w w1):=q0a (blw4 _ _ _ _ _) hb;have S1:Hid (Sl w1 A1 l1 c1):=((((Hs1.out.alloc _).alloc _).alloc _).alloc _).below hb;have S2:Hid (Sl w1 A2 l2 c2):=((((Hs2.out.alloc _).alloc _).alloc _).alloc _).below hb;clear hb;obtain ⟨q0,q1⟩:=K1.out;obtain ⟨q2,q3⟩:=K2.out;go_wp2_with fail
  have J0:=lh (And.intro K1.out.1 (And.intro K1.out.2 K2.out));clear q0 q1 q2 q3
  go_region_held3 (fun w'=>w'.cell? ⟨w.heap.size,0,none⟩=some (.bool n1)∧w'.cell? ⟨w.heap.size,1,none⟩=some (.slice A1 l1.length c1)∧w'.cell? ⟨w.heap.size+1,0,none⟩=some (.bool n2)∧w'.cell? ⟨w.heap.size+1,1,none⟩=some (.slice A2 l2.length c2))
   (first | exact J1.out | exact J0.out)
   (first
    | (go_at_call 127; refine (clone_any _ _ _ _ S1.out.drew).mono ?_; rintro e v1 ⟨AX,CX,rfl,hown,hb5⟩; have SX:=lh (hown.sl S1.out.lim S1.out.len); have SY:=lh (S2.out.drew.below hb5); have J1:=lh (keep4 hb5 J0.out); have RX:=lh (Cw.keep R.out.drew hb5); have FX:=lh (Fw.keep F.out.drew R.out.drew hb5); have BX:=lh (q0a B.out.drew hb5); clear hown hb5))
  clear K1 K2 R F B S1 S2 J0 J1;go_wp2
  go_loopg [7,8,9,10] (val l2) (fun g xs ys _ _ wr=>∃ (A:Option Addr) (x:List Nat) (c:Nat) (A':Option Addr) (y:List Nat) (c':Nat),xs=.slice A x.length c∧ys=.slice A' y.length c'∧g=val y∧Sl wr A x c∧Sl wr A' y c'∧Canon x∧Canon y∧x.length≤4096∧y.length≤4096∧Nat.gcd (val x) (val y)=G∧Cw wr (w.heap.size+1+1) false none 0 0∧Fw wr (w.heap.size+1+1)∧Below w.heap.size w wr)
  case atStart=>exact ⟨AX,l1,CX,A2,l2,c2,rfl,rfl,rfl,SX.out,SY.out,Hk1.out,Hk2.out,m1,m2,HG.out,RX.out,FX.out,BX.out⟩
  case round=>
   obtain ⟨A,x,c,A',y,c',rfl,rfl,rfl,hsx,hsy,hkx,hky,hlx,hly,hgcd,hR,hF,hB⟩:=hrel;have Hx:=lh hsx;have Hy:=lh hsy;have Hkx:=lh hkx;have Hky:=lh hky;have Hg:=lh hgcd;have HR:=lh hR;have HF:=lh hF;have HB:=lh hB;clear hsx hsy hkx hky hgcd hR hF hB;by_cases hy:0 < y.length
   ·have Hdiv:=lh (divide_any A A' x y c c' wr Hx.out Hy.out Hkx.out Hky.out (by intro h; rw [h] at hy; simp at hy) (by omega));have Hlt:=lh (Nat.mod_lt (val x) (q0i Hky.out hy));have Hlen:=lh (mod_len (x:=x) Hky.out hy);go_wp2_with fail
    refine Hdiv.out.mono ?_;rintro e w2 ⟨A5,c5,A6,c6,rfl,hs5,hs6,hb⟩;have H6:=lh hs6;have HB2:=lh (q0a HB.out hb);have HR2:=lh (HR.out.keep hb);have HF2:=lh (Fw.keep HF.out HR.out hb);have Hy2:=lh (Hy.out.below hb);clear hs5 hs6 hb Hdiv;go_wp2
    go_roundg (val x % val y)
    case measure=>exact Hlt.out
    case rel=>exact ⟨A',y,c',A6,limbs (val x % val y),c6,rfl,rfl,(q0j _).symm,Hy2.out,H6.out,Hky.out,q0r _,hly,Nat.le_trans Hlen.out hly,by rw [q0j,gcd_step]; exact Hg.out,HR2.out,HF2.out,HB2.out⟩
   ·have Hv:Hid (val x=G):=(gcd_end hy).symm.trans Hg.out;go_wp2_with fail
    refine (clone_any _ _ _ _ Hx.out).mono ?_;rintro e w2 ⟨A7,c7,rfl,hown,hb⟩;have H7:=lh (hown.sl Hx.out.lim Hx.out.len);have HB2:=lh (q0a HB.out hb);have HR2:=lh (HR.out.keep hb);have HF2:=lh (Fw.keep HF.out HR.out hb);clear hown hb;go_wp2_with fail
    refine (q0v false _ _ _ _ H7.out).mono ?_;rw [Hv.out,Hres.out];rintro e w3 ⟨A8,c8,rfl,hs8,hb8⟩;obtain ⟨f0,f1⟩:=Fw.keep HF2.out HR2.out hb8;obtain ⟨r0,r1⟩:=Cw.keep HR2.out hb8;have B2:=lh (q0a HB2.out hb8);have H8:=lh hs8;clear hb8 hs8;go_wp2
    exact bodyPost_ret (v:=.tuple #[.agg #[.bool r.1.1,.slice A8 r.1.2.length c8],.int .i64 r.2]) (by simp [results,Tryz.results123,go_sem,r0,r1]) rfl (q0m H8.out ⟨r0,r1⟩ B2.out (by omega) _ _)
 ·have hr:gcdS n1 l1 n2 l2=((false,[]),8):=(by rw [gcdS,hbad,if_pos rfl]);have hc:=chk2_bad hbad;rw [hr];clear hr hbad;go_enter Tryz.func123,Tryz.ntmps123
  go_wp2_with fail
  refine (q0h _ [⟨n1,A1,l1,c1⟩,⟨n2,A2,l2,c2⟩] (by simp) _ ?hc).mono ?_
  case hc=>exact Wcs.two (((Hs1.out.alloc _).alloc _).alloc _) (((Hs2.out.alloc _).alloc _).alloc _) (by simp)
  rintro e w1 ⟨rfl,hb⟩;rw [q1i];have K1:Hid (Cw w1 w.heap.size n1 A1 l1.length c1):=⟨q0b hb (by go_simp),q0b hb (by go_simp)⟩;have K2:Hid (Cw w1 (w.heap.size+1) n2 A2 l2.length c2):=⟨q0b hb (by go_simp),q0b hb (by go_simp)⟩;have R:Hid (Cw w1 (w.heap.size+1+1) false none 0 0):=⟨q0b hb (by go_simp),q0b hb (by go_simp)⟩;have F:Hid (Fw w1 (w.heap.size+1+1)):=⟨(hb.frozen (by simp <;> omega)).trans (by go_simp),(hb.frozen (by simp <;> omega)).trans (by go_simp)⟩;have B:Hid (Below w.heap.size w w1):=q0a (blw4 _ _ _ _ _) hb;have S1:Hid (Sl w1 A1 l1 c1):=((((Hs1.out.alloc _).alloc _).alloc _).alloc _).below hb;have S2:Hid (Sl w1 A2 l2 c2):=((((Hs2.out.alloc _).alloc _).alloc _).alloc _).below hb;clear hb;obtain ⟨q0,q1⟩:=K1.out;obtain ⟨q2,q3⟩:=K2.out
  obtain ⟨f0,f1⟩:=F.out;obtain ⟨r0,r1⟩:=R.out;go_wp2
  exact bodyPost_ret (v:=.tuple #[.agg #[.bool false,.slice none 0 0],.int .i64 8]) (by simp [results,Tryz.results123,go_sem,r0,r1]) rfl (q0m (r:=((false,[]),8)) (Sl.nil _ none 0) ⟨r0,r1⟩ B.out (by omega) _ _)
end Go.Proofs.YtgnjhlnolihgcaaGreat
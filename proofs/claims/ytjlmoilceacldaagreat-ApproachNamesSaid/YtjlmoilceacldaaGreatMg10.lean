import Derived.Test.YtjlmoilceacldaaGreatMg6
import Derived.Deep.RegionHeld3
import Derived.Deep.RegionHeld2
import Derived.BigQuiet
import Derived.Deep.QuietTactic
import Derived.Test.YtjlmoilceacldaaGreatShelf
set_option maxHeartbeats 4000000
set_option maxRecDepth 100000
namespace Go.Proofs.YtjlmoilceacldaaGreat
open Lib renaming hid → lh
open Go.RowKit
attribute [local go_sem ↓] Go.wp_at_zero Go.wp_at_succ
abbrev w6 (w:World) (n1 n2 n3 n4:Bool) (A1 A2 A3 A4:Option Addr) (l1 l2 l3 l4:List Nat) (c1 c2 c3 c4:Nat):World:=(((((w.alloc (.cells #[.bool n1,.slice A1 l1.length c1,.bool n2,.slice A2 l2.length c2] 98)).alloc (.cells #[.bool n3,.slice A3 l3.length c3,.bool n4,.slice A4 l4.length c4] 98)).alloc (.cells #[.bool false,.slice none 0 0] 37)).alloc (.cells #[.bool false,.slice none 0 0] 37)).drew)
def PRes (r1 r2:Bool × List Nat) (w:World):Ending→World→Prop:=fun e w'=>
 ∃ A c A2 c2,e=.returned (.tuple #[.agg #[.bool r1.1,.slice A r1.2.length c],.agg #[.bool r2.1,.slice A2 r2.2.length c2]])∧Sl w' A r1.2 c∧Sl w' A2 r2.2 c2∧Below w.heap.size w w'
theorem cross_ok (n1 n2 n3 n4:Bool) (A1 A2 A3 A4:Option Addr) (l1 l2 l3 l4:List Nat) (c1 c2 c3 c4:Nat) (x y:Int) (h1:VZ n1 l1 x) (h4:VZ n4 l4 y) (hf:fitZ (x * y)) (w:World) (hs1:Sl w A1 l1 c1) (hs2:Sl w A2 l2 c2) (hs3:Sl w A3 l3 c3) (hs4:Sl w A4 l4 c4) :
  Calls Tryz.prog 177 #[.agg #[.bool n1,.slice A1 l1.length c1,.bool n2,.slice A2 l2.length c2],.agg #[.bool n3,.slice A3 l3.length c3,.bool n4,.slice A4 l4.length c4]] w (WRes1 (wOf (x * y)) w):=by
 have S1:=lh hs1;have S2:=lh hs2;have S3:=lh hs3;have S4:=lh hs4;have B:Hid (Below w.heap.size w w):=Below.refl _ _;obtain ⟨⟨np,lp⟩,hp⟩:∃ p,p=wOf (x * y):=⟨_,rfl⟩;have e1:Hid (mulS n1 l1 n4 l4=((np,lp),0)):=(by rw [hp]; exact mulS_z h1 h4 hf);rw [← hp];clear hs1 hs2 hs3 hs4 h1 h4 hf hp;go_enter Tryz.func177,Tryz.ntmps177
 go_wp2_with fail
 refine (wmul_any _ _ _ _ _ _ _ _ _ (((S1.out.alloc _).alloc _).alloc _) (((S4.out.alloc _).alloc _).alloc _)).mono ?_;rw [e1.out];rintro e w1 ⟨A5,c5,rfl,hsp,hb⟩;replace S1:=kS3 S1 hb;replace S2:=kS3 S2 hb;replace S3:=kS3 S3 hb;replace S4:=kS3 S4 hb;have Fr:Hid (Fw w1 (w.heap.size+1+1)):=Fw.keep (Fw.fresh (by simp) _ _) (Cw.fresh (by simp) _ _ _ _ _) hb;have Ka:Hid (Cf w1 w.heap.size n1 A1 l1.length c1 n2 A2 l2.length c2):=Cf.keep (Cf.keep (Cf.keep (Cf.fresh (by simp) _ _ _ _ _ _ _ _ _) (blw1 _ _)) (blw1 _ _)) hb;have Kb:Hid (Cf w1 (w.heap.size+1) n3 A3 l3.length c3 n4 A4 l4.length c4):=Cf.keep (Cf.keep (Cf.fresh (by simp) _ _ _ _ _ _ _ _ _) (blw1 _ _)) hb;have Kr:Hid (Cw w1 (w.heap.size+1+1) false none 0 0):=Cw.keep (Cw.fresh (by simp) _ _ _ _ _) hb;replace B:=kB3 B hb;clear hb;have Sp:Hid (Sl w1 A5 lp c5):=hsp;clear hsp;have hza:=lF Ka;have hzb:=lF Kb;have hzr:=lW Kr;go_wp2_with fail
 refine (must_ok _ _ _ _ _).mono ?_;rintro e w2 ⟨rfl,hb⟩;replace S1:=kS S1 hb;replace S2:=kS S2 hb;replace S3:=kS S3 hb;replace S4:=kS S4 hb;replace Sp:=kS Sp hb;replace Fr:=kFw Fr Kr hb;replace Ka:=kF Ka hb;replace Kb:=kF Kb hb;replace Kr:=kW Kr hb;replace B:=kB B hb;clear hb;obtain ⟨qr0,qr1⟩:=Kr.out;obtain ⟨fr0,fr1⟩:=Fr.out;replace hza:=lF Ka;replace hzb:=lF Kb;replace hzr:=lW Kr;go_wp2_with fail
 exact bodyPost_ret (v:=.agg #[.bool np,.slice A5 lp.length c5]) (by simp [results,Tryz.results177,go_sem,qr0,qr1]) rfl ⟨A5,c5,rfl,Sp.out.setW qr0 qr1 _ _,q0c B.out (by omega) _ _⟩
theorem both_ok (n1 n2 n3 n4:Bool) (A1 A2 A3 A4:Option Addr) (l1 l2 l3 l4:List Nat) (c1 c2 c3 c4:Nat) (F:Nat) (hF:∀ (args:Array Value) (W:World),(callFunc F args).run Tryz.prog W=.ok (.enter F args) W) (h1:chkF n1 l1 n2 l2=0) (h2:chkF n3 l3 n4 l4=0) (m1:Bool) (p1:List Nat) (m2:Bool) (p2:List Nat) (x y:Int) (v1:VZ m1 p1 x) (v2:VZ m2 p2 y) (hy:y≠0) (hC:∀ W,Sl W A1 l1 c1→Sl W A2 l2 c2→Sl W A3 l3 c3→Sl W A4 l4 c4→Calls Tryz.prog F #[.agg #[.bool n1,.slice A1 l1.length c1,.bool n2,.slice A2 l2.length c2],.agg #[.bool n3,.slice A3 l3.length c3,.bool n4,.slice A4 l4.length c4]] W (PRes (m1,p1) (m2,p2) W)) (w:World) (hs1:Sl w A1 l1 c1) (hs2:Sl w A2 l2 c2) (hs3:Sl w A3 l3 c3) (hs4:Sl w A4 l4 c4) :
  Calls Tryz.prog 174 #[.agg #[.bool n1,.slice A1 l1.length c1,.bool n2,.slice A2 l2.length c2],.agg #[.bool n3,.slice A3 l3.length c3,.bool n4,.slice A4 l4.length c4],.func (.func F) #[] #[]] w (FRes (redZ x y,0) w):=by
 have S1:=lh hs1;have S2:=lh hs2;have S3:=lh hs3;have S4:=lh hs4;have B:Hid (Below w.heap.size w w):=Below.refl _ _;have e1:=lh h1;have e2:=lh h2;have HC:=lh hC;obtain ⟨⟨⟨np,lp⟩,⟨nq,lq⟩⟩,hr⟩:∃ r,r=redZ x y:=⟨_,rfl⟩;have HR:Hid (∀ W A A' c c',Sl W A p1 c→Sl W A' p2 c'→Calls Tryz.prog 124 #[.agg #[.bool m1,.slice A p1.length c],.agg #[.bool m2,.slice A' p2.length c']] W (FRes1 ((np,lp),(nq,lq)) W)):=fun W A A' c c' a b=>by rw [hr]; exact reduce_any m1 m2 A A' p1 p2 c c' x y v1 v2 hy W a b
 rw [← hr];clear hr v1 v2 hy;clear hs1 hs2 hs3 hs4 h1 h2 hC;go_enter_defers Tryz.func174,Tryz.ntmps174
 go_wp2_with fail
 refine (fcheck_any n1 n2 A1 A2 l1 l2 c1 c2 _ ((((S1.out.alloc _).alloc _).alloc _).alloc _) ((((S2.out.alloc _).alloc _).alloc _).alloc _)).mono ?_;rw [e1.out];rintro e w1 ⟨rfl,hb⟩;replace S1:=kS4 S1 hb;replace S2:=kS4 S2 hb;replace S3:=kS4 S3 hb;replace S4:=kS4 S4 hb;have Fo:Hid (Ff w1 (w.heap.size+1+1)):=Ff.keep (Ff.keep (Ff.fresh (by simp) _ _) (Cf.fresh (by simp) _ _ _ _ _ _ _ _ _) (blw1 _ _)) (Cf.keep (Cf.fresh (by simp) _ _ _ _ _ _ _ _ _) (blw1 _ _)) hb;have Ka:Hid (Cf w1 w.heap.size n1 A1 l1.length c1 n2 A2 l2.length c2):=Cf.keep (Cf.keep (Cf.keep (Cf.keep (Cf.fresh (by simp) _ _ _ _ _ _ _ _ _) (blw1 _ _)) (blw1 _ _)) (blw1 _ _)) hb;have Kb:Hid (Cf w1 (w.heap.size+1) n3 A3 l3.length c3 n4 A4 l4.length c4):=Cf.keep (Cf.keep (Cf.keep (Cf.fresh (by simp) _ _ _ _ _ _ _ _ _) (blw1 _ _)) (blw1 _ _)) hb;have Ko:Hid (Cf w1 (w.heap.size+1+1) false none 0 0 false none 0 0):=Cf.keep (Cf.keep (Cf.fresh (by simp) _ _ _ _ _ _ _ _ _) (blw1 _ _)) hb;have Ke:Hid (C1 w1 (w.heap.size+1+1+1) (.int .i64 0)):=C1.keep (C1.fresh (by simp) _ _) hb;replace B:=kB4 B hb;clear hb;obtain ⟨qa0,qa1,qa2,qa3⟩:=Ka.out;obtain ⟨qb0,qb1,qb2,qb3⟩:=Kb.out;have hza:=lF Ka;have hzb:=lF Kb;have hzo:=lF Ko;have hze:=lC Ke;go_wp2_with fail
 refine (want_ok _).mono ?_;rintro e w2 ⟨rfl,hb⟩;clear qa0 qa1 qa2 qa3 qb0 qb1 qb2 qb3;replace S1:=kS S1 hb;replace S2:=kS S2 hb;replace S3:=kS S3 hb;replace S4:=kS S4 hb;replace Fo:=kFf Fo Ko hb;replace Ka:=kF Ka hb;replace Kb:=kF Kb hb;replace Ko:=kF Ko hb;replace Ke:=kC Ke hb;replace B:=kB B hb;clear hb;obtain ⟨qa0,qa1,qa2,qa3⟩:=Ka.out;obtain ⟨qb0,qb1,qb2,qb3⟩:=Kb.out;replace hza:=lF Ka;replace hzb:=lF Kb;replace hzo:=lF Ko;replace hze:=lC Ke;go_wp2_with fail
 refine (fcheck_any n3 n4 A3 A4 l3 l4 c3 c4 _ S3.out S4.out).mono ?_;rw [e2.out];rintro e w3 ⟨rfl,hb⟩;clear qa0 qa1 qa2 qa3 qb0 qb1 qb2 qb3;replace S1:=kS S1 hb;replace S2:=kS S2 hb;replace S3:=kS S3 hb;replace S4:=kS S4 hb;replace Fo:=kFf Fo Ko hb;replace Ka:=kF Ka hb;replace Kb:=kF Kb hb;replace Ko:=kF Ko hb;replace Ke:=kC Ke hb;replace B:=kB B hb;clear hb;obtain ⟨qa0,qa1,qa2,qa3⟩:=Ka.out;obtain ⟨qb0,qb1,qb2,qb3⟩:=Kb.out;replace hza:=lF Ka;replace hzb:=lF Kb;replace hzo:=lF Ko;replace hze:=lC Ke;go_wp2_with fail
 refine (want_ok _).mono ?_;rintro e w4 ⟨rfl,hb⟩;clear qa0 qa1 qa2 qa3 qb0 qb1 qb2 qb3;replace S1:=kS S1 hb;replace S2:=kS S2 hb;replace S3:=kS S3 hb;replace S4:=kS S4 hb;replace Fo:=kFf Fo Ko hb;replace Ka:=kF Ka hb;replace Kb:=kF Kb hb;replace Ko:=kF Ko hb;replace Ke:=kC Ke hb;replace B:=kB B hb;clear hb;obtain ⟨qa0,qa1,qa2,qa3⟩:=Ka.out;obtain ⟨qb0,qb1,qb2,qb3⟩:=Kb.out;replace hza:=lF Ka;replace hzb:=lF Kb;replace hzo:=lF Ko;replace hze:=lC Ke;go_wp2_with fail
 refine (HC.out _ S1.out S2.out S3.out S4.out).mono ?_;rintro e w5 ⟨A5,c5,A6,c6,rfl,hsm,hsn,hb⟩;clear qa0 qa1 qa2 qa3 qb0 qb1 qb2 qb3;replace S1:=kS S1 hb;replace S2:=kS S2 hb;replace S3:=kS S3 hb;replace S4:=kS S4 hb;replace Fo:=kFf Fo Ko hb;replace Ka:=kF Ka hb;replace Kb:=kF Kb hb;replace Ko:=kF Ko hb;replace Ke:=kC Ke hb;replace B:=kB B hb;clear hb;(try dsimp only at hsm hsn);(try dsimp only);have Sm:Hid (Sl w5 A5 p1 c5):=hsm;clear hsm;have Sn:Hid (Sl w5 A6 p2 c6):=hsn;clear hsn;replace hza:=lF Ka;replace hzb:=lF Kb;replace hzo:=lF Ko;replace hze:=lC Ke;go_wp2_with fail
 refine (HR.out _ _ _ _ _ Sm.out Sn.out).mono ?_;rintro e w6 ⟨A7,c7,A8,c8,rfl,hsp,hsq,hb⟩;replace S1:=kS S1 hb;replace S2:=kS S2 hb;replace S3:=kS S3 hb;replace S4:=kS S4 hb;replace Sm:=kS Sm hb;replace Sn:=kS Sn hb;replace Fo:=kFf Fo Ko hb;replace Ka:=kF Ka hb;replace Kb:=kF Kb hb;replace Ko:=kF Ko hb;replace Ke:=kC Ke hb;replace B:=kB B hb;clear hb;(try dsimp only at hsp hsq);(try dsimp only);have Sp:Hid (Sl w6 A7 lp c7):=hsp;clear hsp;have Sq:Hid (Sl w6 A8 lq c8):=hsq;clear hsq;obtain ⟨qo0,qo1,qo2,qo3⟩:=Ko.out;obtain ⟨fo0,fo1,fo2,fo3⟩:=Fo.out;obtain ⟨qe0,qe1⟩:=Ke.out;replace hza:=lF Ka;replace hzb:=lF Kb;replace hzo:=lF Ko;replace hze:=lC Ke;go_wp2_with fail
 refine leaves_cons (f:=120) (args:=#[.pointer (some ⟨w.heap.size+1+1+1,0,none⟩)]) (by simp) (by simp [go_sem]) ?_;refine (catch_idle ⟨w.heap.size+1+1+1,0,none⟩ _).mono ?_;rintro e u' w'' ⟨rfl,rfl,rfl⟩;simp [Leaves,settle,results,Tryz.results174,go_sem,qo0,qo1,qo2,qo3,qe0];exact fres_store (r:=((np,lp),(nq,lq))) 0 Sp.out Sq.out Ko.out Ke.out (by omega) B.out (by omega) (by omega) _ _ _ _ _
end Go.Proofs.YtjlmoilceacldaaGreat
namespace Go.Proofs.YtjlmoilceacldaaGreat
open Lib renaming hid → lh
open Go.RowKit
attribute [local go_sem ↓] Go.wp_at_zero Go.wp_at_succ
theorem set8 {w:World} {g ga gb:Nat} {a0 a1 a2 a3 b0 b1 b2 b3:Value} (h:w.cell? ⟨ga,0,none⟩=some a0∧w.cell? ⟨ga,1,none⟩=some a1∧w.cell? ⟨ga,2,none⟩=some a2∧w.cell? ⟨ga,3,none⟩=some a3∧w.cell? ⟨gb,0,none⟩=some b0∧w.cell? ⟨gb,1,none⟩=some b1∧w.cell? ⟨gb,2,none⟩=some b2∧w.cell? ⟨gb,3,none⟩=some b3) (h1:ga≠g) (h2:gb≠g) (x y:Value) :
  ((w.setCell ⟨g,0,none⟩ x).setCell ⟨g,1,none⟩ y).cell? ⟨ga,0,none⟩=some a0∧((w.setCell ⟨g,0,none⟩ x).setCell ⟨g,1,none⟩ y).cell? ⟨ga,1,none⟩=some a1∧((w.setCell ⟨g,0,none⟩ x).setCell ⟨g,1,none⟩ y).cell? ⟨ga,2,none⟩=some a2∧((w.setCell ⟨g,0,none⟩ x).setCell ⟨g,1,none⟩ y).cell? ⟨ga,3,none⟩=some a3 ∧
  ((w.setCell ⟨g,0,none⟩ x).setCell ⟨g,1,none⟩ y).cell? ⟨gb,0,none⟩=some b0∧((w.setCell ⟨g,0,none⟩ x).setCell ⟨g,1,none⟩ y).cell? ⟨gb,1,none⟩=some b1∧((w.setCell ⟨g,0,none⟩ x).setCell ⟨g,1,none⟩ y).cell? ⟨gb,2,none⟩=some b2∧((w.setCell ⟨g,0,none⟩ x).setCell ⟨g,1,none⟩ y).cell? ⟨gb,3,none⟩=some b3:=by
 obtain ⟨p0,p1,p2,p3,q0,q1,q2,q3⟩:=h;exact ⟨(q0k h1 x y).trans p0,(q0k h1 x y).trans p1,(q0k h1 x y).trans p2,(q0k h1 x y).trans p3,(q0k h2 x y).trans q0,(q0k h2 x y).trans q1,(q0k h2 x y).trans q2,(q0k h2 x y).trans q3⟩
theorem pres_end {r1 r2:Bool × List Nat} {w wS:World} {g1 g2:Nat} {A A2 B1 B2:Option Addr} {c c2 m1 d1 m2 d2:Nat} {n1 n2:Bool} (h1:Sl wS A r1.2 c) (h2:Sl wS A2 r2.2 c2) (q1:Cw wS g1 n1 B1 m1 d1) (q2:Cw wS g2 n2 B2 m2 d2)
  (hb:Below w.heap.size w wS) (l1:w.heap.size≤g1) (l2:w.heap.size≤g2) (hne:g2≠g1) :
  PRes r1 r2 w (.returned (.tuple #[.agg #[.bool r1.1,.slice A r1.2.length c],.agg #[.bool r2.1,.slice A2 r2.2.length c2]]))
   ((((wS.setCell ⟨g1,0,none⟩ (.bool r1.1)).setCell ⟨g1,1,none⟩ (.slice A r1.2.length c)).setCell ⟨g2,0,none⟩ (.bool r2.1)).setCell ⟨g2,1,none⟩ (.slice A2 r2.2.length c2)):=by
 have q3:=q2.setW hne (.bool r1.1) (.slice A r1.2.length c);exact ⟨A,c,A2,c2,rfl,(h1.setW q1.1 q1.2 _ _).setW q3.1 q3.2 _ _,(h2.setW q1.1 q1.2 _ _).setW q3.1 q3.2 _ _,q0c (q0c hb l1 _ _) l2 _ _⟩
theorem mul1_ok (n1 n2 n3 n4:Bool) (A1 A2 A3 A4:Option Addr) (l1 l2 l3 l4:List Nat) (c1 c2 c3 c4:Nat) (x1 y1 x2 y2:Int) (h1:VZ n1 l1 x1) (h2:VZ n2 l2 y1) (h3:VZ n3 l3 x2) (h4:VZ n4 l4 y2) (f0:fitZ (x1 * x2)) (f2:fitZ (y1 * y2)) (w:World) (hs1:Sl w A1 l1 c1) (hs2:Sl w A2 l2 c2) (hs3:Sl w A3 l3 c3) (hs4:Sl w A4 l4 c4) :
  Calls Tryz.prog 175 #[.agg #[.bool n1,.slice A1 l1.length c1,.bool n2,.slice A2 l2.length c2],.agg #[.bool n3,.slice A3 l3.length c3,.bool n4,.slice A4 l4.length c4]] w (PRes (wOf (x1 * x2)) (wOf (y1 * y2)) w):=by
 obtain ⟨ns,ls,es⟩:∃ n l,wOf (x1 * x2)=(n,l):=⟨_,_,rfl⟩;have vs:=vz_mk es.symm f0;have H0:Hid (mulS n1 l1 n3 l3=((ns,ls),0)):=(by rw [← es]; exact mulS_z h1 h3 f0);obtain ⟨nt,lt,et⟩:∃ n l,wOf (y1 * y2)=(n,l):=⟨_,_,rfl⟩;have vt:=vz_mk et.symm f2;have H2:Hid (mulS n2 l2 n4 l4=((nt,lt),0)):=(by rw [← et]; exact mulS_z h2 h4 f2);rw [es,et];have S1:=lh hs1;have S2:=lh hs2;have S3:=lh hs3;have S4:=lh hs4;have B:Hid (Below w.heap.size w w):=Below.refl _ _;clear hs1 hs2 hs3 hs4 h1 h2 h3 h4 f0 es vs f2 et vt;go_enter Tryz.func175,Tryz.ntmps175
 go_wp2_with fail
 have KaX:Hid (Cf (w6 w n1 n2 n3 n4 A1 A2 A3 A4 l1 l2 l3 l4 c1 c2 c3 c4) w.heap.size n1 A1 l1.length c1 n2 A2 l2.length c2):=Cf.drew (Cf.keep (Cf.keep (Cf.keep (Cf.fresh (by simp) _ _ _ _ _ _ _ _ _) (blw1 _ _)) (blw1 _ _)) (blw1 _ _));have KbX:Hid (Cf (w6 w n1 n2 n3 n4 A1 A2 A3 A4 l1 l2 l3 l4 c1 c2 c3 c4) (w.heap.size+1) n3 A3 l3.length c3 n4 A4 l4.length c4):=Cf.drew (Cf.keep (Cf.keep (Cf.fresh (by simp) _ _ _ _ _ _ _ _ _) (blw1 _ _)) (blw1 _ _));have KrX:Hid (Cw (w6 w n1 n2 n3 n4 A1 A2 A3 A4 l1 l2 l3 l4 c1 c2 c3 c4) (w.heap.size+1+1) false none 0 0):=Cw.drew (Cw.keep (Cw.fresh (by simp) _ _ _ _ _) (blw1 _ _));have KuX:Hid (Cw (w6 w n1 n2 n3 n4 A1 A2 A3 A4 l1 l2 l3 l4 c1 c2 c3 c4) (w.heap.size+1+1+1) false none 0 0):=Cw.drew (Cw.fresh (by simp) _ _ _ _ _);have FrX:Hid (Fw (w6 w n1 n2 n3 n4 A1 A2 A3 A4 l1 l2 l3 l4 c1 c2 c3 c4) (w.heap.size+1+1)):=Fw.drew (Fw.keep (Fw.fresh (by simp) _ _) (Cw.fresh (by simp) _ _ _ _ _) (blw1 _ _));have FuX:Hid (Fw (w6 w n1 n2 n3 n4 A1 A2 A3 A4 l1 l2 l3 l4 c1 c2 c3 c4) (w.heap.size+1+1+1)):=Fw.drew (Fw.fresh (by simp) _ _);have S1X:Hid (Sl (w6 w n1 n2 n3 n4 A1 A2 A3 A4 l1 l2 l3 l4 c1 c2 c3 c4) A1 l1 c1):=Sl.drew ((((S1.out.alloc _).alloc _).alloc _).alloc _);have S2X:Hid (Sl (w6 w n1 n2 n3 n4 A1 A2 A3 A4 l1 l2 l3 l4 c1 c2 c3 c4) A2 l2 c2):=Sl.drew ((((S2.out.alloc _).alloc _).alloc _).alloc _);have S3X:Hid (Sl (w6 w n1 n2 n3 n4 A1 A2 A3 A4 l1 l2 l3 l4 c1 c2 c3 c4) A3 l3 c3):=Sl.drew ((((S3.out.alloc _).alloc _).alloc _).alloc _);have S4X:Hid (Sl (w6 w n1 n2 n3 n4 A1 A2 A3 A4 l1 l2 l3 l4 c1 c2 c3 c4) A4 l4 c4):=Sl.drew ((((S4.out.alloc _).alloc _).alloc _).alloc _);have BX:Hid (Below w.heap.size w (w6 w n1 n2 n3 n4 A1 A2 A3 A4 l1 l2 l3 l4 c1 c2 c3 c4)):=Below.drew (q0a (q0a (q0a (q0a B.out (blw1 _ _)) (blw1 _ _)) (blw1 _ _)) (blw1 _ _));clear S1 S2 S3 S4 B;have J0:Hid ((w6 w n1 n2 n3 n4 A1 A2 A3 A4 l1 l2 l3 l4 c1 c2 c3 c4).cell? ⟨w.heap.size,0,none⟩=some (.bool n1)∧(w6 w n1 n2 n3 n4 A1 A2 A3 A4 l1 l2 l3 l4 c1 c2 c3 c4).cell? ⟨w.heap.size,1,none⟩=some (.slice A1 l1.length c1)∧(w6 w n1 n2 n3 n4 A1 A2 A3 A4 l1 l2 l3 l4 c1 c2 c3 c4).cell? ⟨w.heap.size,2,none⟩=some (.bool n2)∧(w6 w n1 n2 n3 n4 A1 A2 A3 A4 l1 l2 l3 l4 c1 c2 c3 c4).cell? ⟨w.heap.size,3,none⟩=some (.slice A2 l2.length c2)∧(w6 w n1 n2 n3 n4 A1 A2 A3 A4 l1 l2 l3 l4 c1 c2 c3 c4).cell? ⟨w.heap.size+1,0,none⟩=some (.bool n3)∧(w6 w n1 n2 n3 n4 A1 A2 A3 A4 l1 l2 l3 l4 c1 c2 c3 c4).cell? ⟨w.heap.size+1,1,none⟩=some (.slice A3 l3.length c3)∧(w6 w n1 n2 n3 n4 A1 A2 A3 A4 l1 l2 l3 l4 c1 c2 c3 c4).cell? ⟨w.heap.size+1,2,none⟩=some (.bool n4)∧(w6 w n1 n2 n3 n4 A1 A2 A3 A4 l1 l2 l3 l4 c1 c2 c3 c4).cell? ⟨w.heap.size+1,3,none⟩=some (.slice A4 l4.length c4)):=⟨KaX.out.1,KaX.out.2.1,KaX.out.2.2.1,KaX.out.2.2.2,KbX.out.1,KbX.out.2.1,KbX.out.2.2.1,KbX.out.2.2.2⟩
 go_region_held3 (fun w'=>w'.cell? ⟨w.heap.size,0,none⟩=some (.bool n1)∧w'.cell? ⟨w.heap.size,1,none⟩=some (.slice A1 l1.length c1)∧w'.cell? ⟨w.heap.size,2,none⟩=some (.bool n2)∧w'.cell? ⟨w.heap.size,3,none⟩=some (.slice A2 l2.length c2)∧w'.cell? ⟨w.heap.size+1,0,none⟩=some (.bool n3)∧w'.cell? ⟨w.heap.size+1,1,none⟩=some (.slice A3 l3.length c3)∧w'.cell? ⟨w.heap.size+1,2,none⟩=some (.bool n4)∧w'.cell? ⟨w.heap.size+1,3,none⟩=some (.slice A4 l4.length c4))
  (first | with_reducible exact J4.out | with_reducible exact set8 J4.out (by omega) (by omega) _ _ | with_reducible exact set8 (set8 J4.out (by omega) (by omega) _ _) (by omega) (by omega) _ _ | with_reducible exact J3.out | with_reducible exact J2.out | with_reducible exact J1.out | with_reducible exact J0.out)
  (first
   | (go_at_call 93; (with_reducible refine (wmul_any n1 n3 _ _ l1 l3 _ _ _ S1X.out S3X.out).mono ?_); rw [H0.out]; rintro e v1 ⟨As,cs,rfl,hss,hb⟩; (try dsimp only at hss); (try dsimp only); have Kav1:=kF KaX hb; have Kbv1:=kF KbX hb; have Frv1:=kFw FrX KrX hb; have Fuv1:=kFw FuX KuX hb; have Krv1:=kW KrX hb; have Kuv1:=kW KuX hb; have S1v1:=kS S1X hb; have S2v1:=kS S2X hb; have S3v1:=kS S3X hb; have S4v1:=kS S4X hb; have Bv1:=kB BX hb; have J1:Hid (v1.cell? ⟨w.heap.size,0,none⟩=some (.bool n1)∧v1.cell? ⟨w.heap.size,1,none⟩=some (.slice A1 l1.length c1)∧v1.cell? ⟨w.heap.size,2,none⟩=some (.bool n2)∧v1.cell? ⟨w.heap.size,3,none⟩=some (.slice A2 l2.length c2)∧v1.cell? ⟨w.heap.size+1,0,none⟩=some (.bool n3)∧v1.cell? ⟨w.heap.size+1,1,none⟩=some (.slice A3 l3.length c3)∧v1.cell? ⟨w.heap.size+1,2,none⟩=some (.bool n4)∧v1.cell? ⟨w.heap.size+1,3,none⟩=some (.slice A4 l4.length c4)):=⟨Kav1.out.1,Kav1.out.2.1,Kav1.out.2.2.1,Kav1.out.2.2.2,Kbv1.out.1,Kbv1.out.2.1,Kbv1.out.2.2.1,Kbv1.out.2.2.2⟩; have Ssv1:Hid (Sl v1 As ls cs):=hss; clear hss; clear hb)
   | (go_at_call 127; (with_reducible refine (must_ok ns As ls.length cs _).mono ?_); rintro e v2 ⟨rfl,hb⟩; have Kav2:=kF Kav1 hb; have Kbv2:=kF Kbv1 hb; have Frv2:=kFw Frv1 Krv1 hb; have Fuv2:=kFw Fuv1 Kuv1 hb; have Krv2:=kW Krv1 hb; have Kuv2:=kW Kuv1 hb; have S1v2:=kS S1v1 hb; have S2v2:=kS S2v1 hb; have S3v2:=kS S3v1 hb; have S4v2:=kS S4v1 hb; have Ssv2:=kS Ssv1 hb; have Bv2:=kB Bv1 hb; have J2:Hid (v2.cell? ⟨w.heap.size,0,none⟩=some (.bool n1)∧v2.cell? ⟨w.heap.size,1,none⟩=some (.slice A1 l1.length c1)∧v2.cell? ⟨w.heap.size,2,none⟩=some (.bool n2)∧v2.cell? ⟨w.heap.size,3,none⟩=some (.slice A2 l2.length c2)∧v2.cell? ⟨w.heap.size+1,0,none⟩=some (.bool n3)∧v2.cell? ⟨w.heap.size+1,1,none⟩=some (.slice A3 l3.length c3)∧v2.cell? ⟨w.heap.size+1,2,none⟩=some (.bool n4)∧v2.cell? ⟨w.heap.size+1,3,none⟩=some (.slice A4 l4.length c4)):=⟨Kav2.out.1,Kav2.out.2.1,Kav2.out.2.2.1,Kav2.out.2.2.2,Kbv2.out.1,Kbv2.out.2.1,Kbv2.out.2.2.1,Kbv2.out.2.2.2⟩; clear hb)
   | (go_at_call 93; (with_reducible refine (wmul_any n2 n4 _ _ l2 l4 _ _ _ S2v2.out S4v2.out).mono ?_); rw [H2.out]; rintro e v3 ⟨At,ct,rfl,hst,hb⟩; (try dsimp only at hst); (try dsimp only); have Kav3:=kF Kav2 hb; have Kbv3:=kF Kbv2 hb; have Frv3:=kFw Frv2 Krv2 hb; have Fuv3:=kFw Fuv2 Kuv2 hb; have Krv3:=kW Krv2 hb; have Kuv3:=kW Kuv2 hb; have S1v3:=kS S1v2 hb; have S2v3:=kS S2v2 hb; have S3v3:=kS S3v2 hb; have S4v3:=kS S4v2 hb; have Ssv3:=kS Ssv2 hb; have Bv3:=kB Bv2 hb; have J3:Hid (v3.cell? ⟨w.heap.size,0,none⟩=some (.bool n1)∧v3.cell? ⟨w.heap.size,1,none⟩=some (.slice A1 l1.length c1)∧v3.cell? ⟨w.heap.size,2,none⟩=some (.bool n2)∧v3.cell? ⟨w.heap.size,3,none⟩=some (.slice A2 l2.length c2)∧v3.cell? ⟨w.heap.size+1,0,none⟩=some (.bool n3)∧v3.cell? ⟨w.heap.size+1,1,none⟩=some (.slice A3 l3.length c3)∧v3.cell? ⟨w.heap.size+1,2,none⟩=some (.bool n4)∧v3.cell? ⟨w.heap.size+1,3,none⟩=some (.slice A4 l4.length c4)):=⟨Kav3.out.1,Kav3.out.2.1,Kav3.out.2.2.1,Kav3.out.2.2.2,Kbv3.out.1,Kbv3.out.2.1,Kbv3.out.2.2.1,Kbv3.out.2.2.2⟩; have Stv3:Hid (Sl v3 At lt ct):=hst; clear hst; clear hb)
   | (go_at_call 127; (with_reducible refine (must_ok nt At lt.length ct _).mono ?_); rintro e v4 ⟨rfl,hb⟩; have Kav4:=kF Kav3 hb; have Kbv4:=kF Kbv3 hb; have Frv4:=kFw Frv3 Krv3 hb; have Fuv4:=kFw Fuv3 Kuv3 hb; have Krv4:=kW Krv3 hb; have Kuv4:=kW Kuv3 hb; have S1v4:=kS S1v3 hb; have S2v4:=kS S2v3 hb; have S3v4:=kS S3v3 hb; have S4v4:=kS S4v3 hb; have Ssv4:=kS Ssv3 hb; have Stv4:=kS Stv3 hb; have Bv4:=kB Bv3 hb; have J4:Hid (v4.cell? ⟨w.heap.size,0,none⟩=some (.bool n1)∧v4.cell? ⟨w.heap.size,1,none⟩=some (.slice A1 l1.length c1)∧v4.cell? ⟨w.heap.size,2,none⟩=some (.bool n2)∧v4.cell? ⟨w.heap.size,3,none⟩=some (.slice A2 l2.length c2)∧v4.cell? ⟨w.heap.size+1,0,none⟩=some (.bool n3)∧v4.cell? ⟨w.heap.size+1,1,none⟩=some (.slice A3 l3.length c3)∧v4.cell? ⟨w.heap.size+1,2,none⟩=some (.bool n4)∧v4.cell? ⟨w.heap.size+1,3,none⟩=some (.slice A4 l4.length c4)):=⟨Kav4.out.1,Kav4.out.2.1,Kav4.out.2.2.1,Kav4.out.2.2.2,Kbv4.out.1,Kbv4.out.2.1,Kbv4.out.2.2.1,Kbv4.out.2.2.2⟩; obtain ⟨r0,r1⟩:=Krv4.out; obtain ⟨u0,u1⟩:=Kuv4.out; obtain ⟨g0,g1⟩:=Frv4.out; obtain ⟨g2,g3⟩:=Fuv4.out; clear hb))
 go_wp2
 exact bodyPost_ret (v:=.tuple #[.agg #[.bool ns,.slice As ls.length cs],.agg #[.bool nt,.slice At lt.length ct]]) (by simp [results,Tryz.results175,go_sem,r0,r1,u0,u1]) rfl (pres_end Ssv4.out Stv4.out Krv4.out Kuv4.out Bv4.out (by omega) (by omega) (by omega))
end Go.Proofs.YtjlmoilceacldaaGreat
namespace Go.Proofs.YtjlmoilceacldaaGreat
open Lib renaming hid → lh
open Go.RowKit
attribute [local go_sem ↓] Go.wp_at_zero Go.wp_at_succ
theorem add1_ok (n1 n2 n3 n4:Bool) (A1 A2 A3 A4:Option Addr) (l1 l2 l3 l4:List Nat) (c1 c2 c3 c4:Nat) (x1 y1 x2 y2:Int) (h1:VZ n1 l1 x1) (h2:VZ n2 l2 y1) (h3:VZ n3 l3 x2) (h4:VZ n4 l4 y2) (f0:fitZ (x1 * y2)) (f1:fitZ (x2 * y1)) (f2:fitZ (x1 * y2+x2 * y1)) (f4:fitZ (y1 * y2)) (w:World) (hs1:Sl w A1 l1 c1) (hs2:Sl w A2 l2 c2) (hs3:Sl w A3 l3 c3) (hs4:Sl w A4 l4 c4) :
  Calls Tryz.prog 176 #[.agg #[.bool n1,.slice A1 l1.length c1,.bool n2,.slice A2 l2.length c2],.agg #[.bool n3,.slice A3 l3.length c3,.bool n4,.slice A4 l4.length c4]] w (PRes (wOf (x1 * y2+x2 * y1)) (wOf (y1 * y2)) w):=by
 obtain ⟨np,lp,ep⟩:∃ n l,wOf (x1 * y2)=(n,l):=⟨_,_,rfl⟩;have vp:=vz_mk ep.symm f0;have H0:Hid (∀ W,Sl W A1 l1 c1→Sl W A2 l2 c2→Sl W A3 l3 c3→Sl W A4 l4 c4→Calls Tryz.prog 177 #[.agg #[.bool n1,.slice A1 l1.length c1,.bool n2,.slice A2 l2.length c2],.agg #[.bool n3,.slice A3 l3.length c3,.bool n4,.slice A4 l4.length c4]] W (WRes1 (np,lp) W)):=fun W a b c d=>by rw [← ep]; exact cross_ok n1 n2 n3 n4 A1 A2 A3 A4 l1 l2 l3 l4 c1 c2 c3 c4 x1 y2 h1 h4 f0 W a b c d
 obtain ⟨nq,lq,eq⟩:∃ n l,wOf (x2 * y1)=(n,l):=⟨_,_,rfl⟩;have vq:=vz_mk eq.symm f1;have H1:Hid (∀ W,Sl W A1 l1 c1→Sl W A2 l2 c2→Sl W A3 l3 c3→Sl W A4 l4 c4→Calls Tryz.prog 177 #[.agg #[.bool n3,.slice A3 l3.length c3,.bool n4,.slice A4 l4.length c4],.agg #[.bool n1,.slice A1 l1.length c1,.bool n2,.slice A2 l2.length c2]] W (WRes1 (nq,lq) W)):=fun W a b c d=>by rw [← eq]; exact cross_ok n3 n4 n1 n2 A3 A4 A1 A2 l3 l4 l1 l2 c3 c4 c1 c2 x2 y1 h3 h2 f1 W c d a b
 obtain ⟨ns,ls,es⟩:∃ n l,wOf (x1 * y2+x2 * y1)=(n,l):=⟨_,_,rfl⟩;have vs:=vz_mk es.symm f2;have H2:Hid (addS np lp nq lq=((ns,ls),0)):=(by rw [← es]; exact addS_z vp vq f2);obtain ⟨nt,lt,et⟩:∃ n l,wOf (y1 * y2)=(n,l):=⟨_,_,rfl⟩;have vt:=vz_mk et.symm f4;have H4:Hid (mulS n2 l2 n4 l4=((nt,lt),0)):=(by rw [← et]; exact mulS_z h2 h4 f4);rw [es,et];have S1:=lh hs1;have S2:=lh hs2;have S3:=lh hs3;have S4:=lh hs4;have B:Hid (Below w.heap.size w w):=Below.refl _ _;clear hs1 hs2 hs3 hs4 h1 h2 h3 h4 f0 ep vp f1 eq vq f2 es vs f4 et vt;go_enter Tryz.func176,Tryz.ntmps176
 go_wp2_with fail
 have KaX:Hid (Cf (w6 w n1 n2 n3 n4 A1 A2 A3 A4 l1 l2 l3 l4 c1 c2 c3 c4) w.heap.size n1 A1 l1.length c1 n2 A2 l2.length c2):=Cf.drew (Cf.keep (Cf.keep (Cf.keep (Cf.fresh (by simp) _ _ _ _ _ _ _ _ _) (blw1 _ _)) (blw1 _ _)) (blw1 _ _));have KbX:Hid (Cf (w6 w n1 n2 n3 n4 A1 A2 A3 A4 l1 l2 l3 l4 c1 c2 c3 c4) (w.heap.size+1) n3 A3 l3.length c3 n4 A4 l4.length c4):=Cf.drew (Cf.keep (Cf.keep (Cf.fresh (by simp) _ _ _ _ _ _ _ _ _) (blw1 _ _)) (blw1 _ _));have KrX:Hid (Cw (w6 w n1 n2 n3 n4 A1 A2 A3 A4 l1 l2 l3 l4 c1 c2 c3 c4) (w.heap.size+1+1) false none 0 0):=Cw.drew (Cw.keep (Cw.fresh (by simp) _ _ _ _ _) (blw1 _ _));have KuX:Hid (Cw (w6 w n1 n2 n3 n4 A1 A2 A3 A4 l1 l2 l3 l4 c1 c2 c3 c4) (w.heap.size+1+1+1) false none 0 0):=Cw.drew (Cw.fresh (by simp) _ _ _ _ _);have FrX:Hid (Fw (w6 w n1 n2 n3 n4 A1 A2 A3 A4 l1 l2 l3 l4 c1 c2 c3 c4) (w.heap.size+1+1)):=Fw.drew (Fw.keep (Fw.fresh (by simp) _ _) (Cw.fresh (by simp) _ _ _ _ _) (blw1 _ _));have FuX:Hid (Fw (w6 w n1 n2 n3 n4 A1 A2 A3 A4 l1 l2 l3 l4 c1 c2 c3 c4) (w.heap.size+1+1+1)):=Fw.drew (Fw.fresh (by simp) _ _);have S1X:Hid (Sl (w6 w n1 n2 n3 n4 A1 A2 A3 A4 l1 l2 l3 l4 c1 c2 c3 c4) A1 l1 c1):=Sl.drew ((((S1.out.alloc _).alloc _).alloc _).alloc _);have S2X:Hid (Sl (w6 w n1 n2 n3 n4 A1 A2 A3 A4 l1 l2 l3 l4 c1 c2 c3 c4) A2 l2 c2):=Sl.drew ((((S2.out.alloc _).alloc _).alloc _).alloc _);have S3X:Hid (Sl (w6 w n1 n2 n3 n4 A1 A2 A3 A4 l1 l2 l3 l4 c1 c2 c3 c4) A3 l3 c3):=Sl.drew ((((S3.out.alloc _).alloc _).alloc _).alloc _);have S4X:Hid (Sl (w6 w n1 n2 n3 n4 A1 A2 A3 A4 l1 l2 l3 l4 c1 c2 c3 c4) A4 l4 c4):=Sl.drew ((((S4.out.alloc _).alloc _).alloc _).alloc _);have BX:Hid (Below w.heap.size w (w6 w n1 n2 n3 n4 A1 A2 A3 A4 l1 l2 l3 l4 c1 c2 c3 c4)):=Below.drew (q0a (q0a (q0a (q0a B.out (blw1 _ _)) (blw1 _ _)) (blw1 _ _)) (blw1 _ _));clear S1 S2 S3 S4 B;have J0:Hid ((w6 w n1 n2 n3 n4 A1 A2 A3 A4 l1 l2 l3 l4 c1 c2 c3 c4).cell? ⟨w.heap.size,0,none⟩=some (.bool n1)∧(w6 w n1 n2 n3 n4 A1 A2 A3 A4 l1 l2 l3 l4 c1 c2 c3 c4).cell? ⟨w.heap.size,1,none⟩=some (.slice A1 l1.length c1)∧(w6 w n1 n2 n3 n4 A1 A2 A3 A4 l1 l2 l3 l4 c1 c2 c3 c4).cell? ⟨w.heap.size,2,none⟩=some (.bool n2)∧(w6 w n1 n2 n3 n4 A1 A2 A3 A4 l1 l2 l3 l4 c1 c2 c3 c4).cell? ⟨w.heap.size,3,none⟩=some (.slice A2 l2.length c2)∧(w6 w n1 n2 n3 n4 A1 A2 A3 A4 l1 l2 l3 l4 c1 c2 c3 c4).cell? ⟨w.heap.size+1,0,none⟩=some (.bool n3)∧(w6 w n1 n2 n3 n4 A1 A2 A3 A4 l1 l2 l3 l4 c1 c2 c3 c4).cell? ⟨w.heap.size+1,1,none⟩=some (.slice A3 l3.length c3)∧(w6 w n1 n2 n3 n4 A1 A2 A3 A4 l1 l2 l3 l4 c1 c2 c3 c4).cell? ⟨w.heap.size+1,2,none⟩=some (.bool n4)∧(w6 w n1 n2 n3 n4 A1 A2 A3 A4 l1 l2 l3 l4 c1 c2 c3 c4).cell? ⟨w.heap.size+1,3,none⟩=some (.slice A4 l4.length c4)):=⟨KaX.out.1,KaX.out.2.1,KaX.out.2.2.1,KaX.out.2.2.2,KbX.out.1,KbX.out.2.1,KbX.out.2.2.1,KbX.out.2.2.2⟩
 go_region_held3 (fun w'=>w'.cell? ⟨w.heap.size,0,none⟩=some (.bool n1)∧w'.cell? ⟨w.heap.size,1,none⟩=some (.slice A1 l1.length c1)∧w'.cell? ⟨w.heap.size,2,none⟩=some (.bool n2)∧w'.cell? ⟨w.heap.size,3,none⟩=some (.slice A2 l2.length c2)∧w'.cell? ⟨w.heap.size+1,0,none⟩=some (.bool n3)∧w'.cell? ⟨w.heap.size+1,1,none⟩=some (.slice A3 l3.length c3)∧w'.cell? ⟨w.heap.size+1,2,none⟩=some (.bool n4)∧w'.cell? ⟨w.heap.size+1,3,none⟩=some (.slice A4 l4.length c4))
  (first | with_reducible exact J6.out | with_reducible exact set8 J6.out (by omega) (by omega) _ _ | with_reducible exact set8 (set8 J6.out (by omega) (by omega) _ _) (by omega) (by omega) _ _ | with_reducible exact J5.out | with_reducible exact J4.out | with_reducible exact J3.out | with_reducible exact J2.out | with_reducible exact J1.out | with_reducible exact J0.out)
  (first
   | (go_at_call 177; (with_reducible refine (H0.out _ S1X.out S2X.out S3X.out S4X.out).mono ?_); rintro e v1 ⟨Ap,cp,rfl,hsp,hb⟩; (try dsimp only at hsp); (try dsimp only); have Kav1:=kF KaX hb; have Kbv1:=kF KbX hb; have Frv1:=kFw FrX KrX hb; have Fuv1:=kFw FuX KuX hb; have Krv1:=kW KrX hb; have Kuv1:=kW KuX hb; have S1v1:=kS S1X hb; have S2v1:=kS S2X hb; have S3v1:=kS S3X hb; have S4v1:=kS S4X hb; have Bv1:=kB BX hb; have J1:Hid (v1.cell? ⟨w.heap.size,0,none⟩=some (.bool n1)∧v1.cell? ⟨w.heap.size,1,none⟩=some (.slice A1 l1.length c1)∧v1.cell? ⟨w.heap.size,2,none⟩=some (.bool n2)∧v1.cell? ⟨w.heap.size,3,none⟩=some (.slice A2 l2.length c2)∧v1.cell? ⟨w.heap.size+1,0,none⟩=some (.bool n3)∧v1.cell? ⟨w.heap.size+1,1,none⟩=some (.slice A3 l3.length c3)∧v1.cell? ⟨w.heap.size+1,2,none⟩=some (.bool n4)∧v1.cell? ⟨w.heap.size+1,3,none⟩=some (.slice A4 l4.length c4)):=⟨Kav1.out.1,Kav1.out.2.1,Kav1.out.2.2.1,Kav1.out.2.2.2,Kbv1.out.1,Kbv1.out.2.1,Kbv1.out.2.2.1,Kbv1.out.2.2.2⟩; have Spv1:Hid (Sl v1 Ap lp cp):=hsp; clear hsp; clear hb)
   | (go_at_call 177; (with_reducible refine (H1.out _ S1v1.out S2v1.out S3v1.out S4v1.out).mono ?_); rintro e v2 ⟨Aq,cq,rfl,hsq,hb⟩; (try dsimp only at hsq); (try dsimp only); have Kav2:=kF Kav1 hb; have Kbv2:=kF Kbv1 hb; have Frv2:=kFw Frv1 Krv1 hb; have Fuv2:=kFw Fuv1 Kuv1 hb; have Krv2:=kW Krv1 hb; have Kuv2:=kW Kuv1 hb; have S1v2:=kS S1v1 hb; have S2v2:=kS S2v1 hb; have S3v2:=kS S3v1 hb; have S4v2:=kS S4v1 hb; have Spv2:=kS Spv1 hb; have Bv2:=kB Bv1 hb; have J2:Hid (v2.cell? ⟨w.heap.size,0,none⟩=some (.bool n1)∧v2.cell? ⟨w.heap.size,1,none⟩=some (.slice A1 l1.length c1)∧v2.cell? ⟨w.heap.size,2,none⟩=some (.bool n2)∧v2.cell? ⟨w.heap.size,3,none⟩=some (.slice A2 l2.length c2)∧v2.cell? ⟨w.heap.size+1,0,none⟩=some (.bool n3)∧v2.cell? ⟨w.heap.size+1,1,none⟩=some (.slice A3 l3.length c3)∧v2.cell? ⟨w.heap.size+1,2,none⟩=some (.bool n4)∧v2.cell? ⟨w.heap.size+1,3,none⟩=some (.slice A4 l4.length c4)):=⟨Kav2.out.1,Kav2.out.2.1,Kav2.out.2.2.1,Kav2.out.2.2.2,Kbv2.out.1,Kbv2.out.2.1,Kbv2.out.2.2.1,Kbv2.out.2.2.2⟩; have Sqv2:Hid (Sl v2 Aq lq cq):=hsq; clear hsq; clear hb)
   | (go_at_call 65; (with_reducible refine (wadd_any np nq _ _ lp lq _ _ _ Spv2.out Sqv2.out).mono ?_); rw [H2.out]; rintro e v3 ⟨As,cs,rfl,hss,hb⟩; (try dsimp only at hss); (try dsimp only); have Kav3:=kF Kav2 hb; have Kbv3:=kF Kbv2 hb; have Frv3:=kFw Frv2 Krv2 hb; have Fuv3:=kFw Fuv2 Kuv2 hb; have Krv3:=kW Krv2 hb; have Kuv3:=kW Kuv2 hb; have S1v3:=kS S1v2 hb; have S2v3:=kS S2v2 hb; have S3v3:=kS S3v2 hb; have S4v3:=kS S4v2 hb; have Spv3:=kS Spv2 hb; have Sqv3:=kS Sqv2 hb; have Bv3:=kB Bv2 hb; have J3:Hid (v3.cell? ⟨w.heap.size,0,none⟩=some (.bool n1)∧v3.cell? ⟨w.heap.size,1,none⟩=some (.slice A1 l1.length c1)∧v3.cell? ⟨w.heap.size,2,none⟩=some (.bool n2)∧v3.cell? ⟨w.heap.size,3,none⟩=some (.slice A2 l2.length c2)∧v3.cell? ⟨w.heap.size+1,0,none⟩=some (.bool n3)∧v3.cell? ⟨w.heap.size+1,1,none⟩=some (.slice A3 l3.length c3)∧v3.cell? ⟨w.heap.size+1,2,none⟩=some (.bool n4)∧v3.cell? ⟨w.heap.size+1,3,none⟩=some (.slice A4 l4.length c4)):=⟨Kav3.out.1,Kav3.out.2.1,Kav3.out.2.2.1,Kav3.out.2.2.2,Kbv3.out.1,Kbv3.out.2.1,Kbv3.out.2.2.1,Kbv3.out.2.2.2⟩; have Ssv3:Hid (Sl v3 As ls cs):=hss; clear hss; clear hb)
   | (go_at_call 127; (with_reducible refine (must_ok ns As ls.length cs _).mono ?_); rintro e v4 ⟨rfl,hb⟩; have Kav4:=kF Kav3 hb; have Kbv4:=kF Kbv3 hb; have Frv4:=kFw Frv3 Krv3 hb; have Fuv4:=kFw Fuv3 Kuv3 hb; have Krv4:=kW Krv3 hb; have Kuv4:=kW Kuv3 hb; have S1v4:=kS S1v3 hb; have S2v4:=kS S2v3 hb; have S3v4:=kS S3v3 hb; have S4v4:=kS S4v3 hb; have Spv4:=kS Spv3 hb; have Sqv4:=kS Sqv3 hb; have Ssv4:=kS Ssv3 hb; have Bv4:=kB Bv3 hb; have J4:Hid (v4.cell? ⟨w.heap.size,0,none⟩=some (.bool n1)∧v4.cell? ⟨w.heap.size,1,none⟩=some (.slice A1 l1.length c1)∧v4.cell? ⟨w.heap.size,2,none⟩=some (.bool n2)∧v4.cell? ⟨w.heap.size,3,none⟩=some (.slice A2 l2.length c2)∧v4.cell? ⟨w.heap.size+1,0,none⟩=some (.bool n3)∧v4.cell? ⟨w.heap.size+1,1,none⟩=some (.slice A3 l3.length c3)∧v4.cell? ⟨w.heap.size+1,2,none⟩=some (.bool n4)∧v4.cell? ⟨w.heap.size+1,3,none⟩=some (.slice A4 l4.length c4)):=⟨Kav4.out.1,Kav4.out.2.1,Kav4.out.2.2.1,Kav4.out.2.2.2,Kbv4.out.1,Kbv4.out.2.1,Kbv4.out.2.2.1,Kbv4.out.2.2.2⟩; clear hb)
   | (go_at_call 93; (with_reducible refine (wmul_any n2 n4 _ _ l2 l4 _ _ _ S2v4.out S4v4.out).mono ?_); rw [H4.out]; rintro e v5 ⟨At,ct,rfl,hst,hb⟩; (try dsimp only at hst); (try dsimp only); have Kav5:=kF Kav4 hb; have Kbv5:=kF Kbv4 hb; have Frv5:=kFw Frv4 Krv4 hb; have Fuv5:=kFw Fuv4 Kuv4 hb; have Krv5:=kW Krv4 hb; have Kuv5:=kW Kuv4 hb; have S1v5:=kS S1v4 hb; have S2v5:=kS S2v4 hb; have S3v5:=kS S3v4 hb; have S4v5:=kS S4v4 hb; have Spv5:=kS Spv4 hb; have Sqv5:=kS Sqv4 hb; have Ssv5:=kS Ssv4 hb; have Bv5:=kB Bv4 hb; have J5:Hid (v5.cell? ⟨w.heap.size,0,none⟩=some (.bool n1)∧v5.cell? ⟨w.heap.size,1,none⟩=some (.slice A1 l1.length c1)∧v5.cell? ⟨w.heap.size,2,none⟩=some (.bool n2)∧v5.cell? ⟨w.heap.size,3,none⟩=some (.slice A2 l2.length c2)∧v5.cell? ⟨w.heap.size+1,0,none⟩=some (.bool n3)∧v5.cell? ⟨w.heap.size+1,1,none⟩=some (.slice A3 l3.length c3)∧v5.cell? ⟨w.heap.size+1,2,none⟩=some (.bool n4)∧v5.cell? ⟨w.heap.size+1,3,none⟩=some (.slice A4 l4.length c4)):=⟨Kav5.out.1,Kav5.out.2.1,Kav5.out.2.2.1,Kav5.out.2.2.2,Kbv5.out.1,Kbv5.out.2.1,Kbv5.out.2.2.1,Kbv5.out.2.2.2⟩; have Stv5:Hid (Sl v5 At lt ct):=hst; clear hst; clear hb)
   | (go_at_call 127; (with_reducible refine (must_ok nt At lt.length ct _).mono ?_); rintro e v6 ⟨rfl,hb⟩; have Kav6:=kF Kav5 hb; have Kbv6:=kF Kbv5 hb; have Frv6:=kFw Frv5 Krv5 hb; have Fuv6:=kFw Fuv5 Kuv5 hb; have Krv6:=kW Krv5 hb; have Kuv6:=kW Kuv5 hb; have S1v6:=kS S1v5 hb; have S2v6:=kS S2v5 hb; have S3v6:=kS S3v5 hb; have S4v6:=kS S4v5 hb; have Spv6:=kS Spv5 hb; have Sqv6:=kS Sqv5 hb; have Ssv6:=kS Ssv5 hb; have Stv6:=kS Stv5 hb; have Bv6:=kB Bv5 hb; have J6:Hid (v6.cell? ⟨w.heap.size,0,none⟩=some (.bool n1)∧v6.cell? ⟨w.heap.size,1,none⟩=some (.slice A1 l1.length c1)∧v6.cell? ⟨w.heap.size,2,none⟩=some (.bool n2)∧v6.cell? ⟨w.heap.size,3,none⟩=some (.slice A2 l2.length c2)∧v6.cell? ⟨w.heap.size+1,0,none⟩=some (.bool n3)∧v6.cell? ⟨w.heap.size+1,1,none⟩=some (.slice A3 l3.length c3)∧v6.cell? ⟨w.heap.size+1,2,none⟩=some (.bool n4)∧v6.cell? ⟨w.heap.size+1,3,none⟩=some (.slice A4 l4.length c4)):=⟨Kav6.out.1,Kav6.out.2.1,Kav6.out.2.2.1,Kav6.out.2.2.2,Kbv6.out.1,Kbv6.out.2.1,Kbv6.out.2.2.1,Kbv6.out.2.2.2⟩; obtain ⟨r0,r1⟩:=Krv6.out; obtain ⟨u0,u1⟩:=Kuv6.out; obtain ⟨g0,g1⟩:=Frv6.out; obtain ⟨g2,g3⟩:=Fuv6.out; clear hb))
 go_wp2
 exact bodyPost_ret (v:=.tuple #[.agg #[.bool ns,.slice As ls.length cs],.agg #[.bool nt,.slice At lt.length ct]]) (by simp [results,Tryz.results176,go_sem,r0,r1,u0,u1]) rfl (pres_end Ssv6.out Stv6.out Krv6.out Kuv6.out Bv6.out (by omega) (by omega) (by omega))
theorem sub1_ok (n1 n2 n3 n4:Bool) (A1 A2 A3 A4:Option Addr) (l1 l2 l3 l4:List Nat) (c1 c2 c3 c4:Nat) (x1 y1 x2 y2:Int) (h1:VZ n1 l1 x1) (h2:VZ n2 l2 y1) (h3:VZ n3 l3 x2) (h4:VZ n4 l4 y2) (f0:fitZ (x1 * y2)) (f1:fitZ (x2 * y1)) (f2:fitZ (x1 * y2 - x2 * y1)) (f4:fitZ (y1 * y2)) (w:World) (hs1:Sl w A1 l1 c1) (hs2:Sl w A2 l2 c2) (hs3:Sl w A3 l3 c3) (hs4:Sl w A4 l4 c4) :
  Calls Tryz.prog 178 #[.agg #[.bool n1,.slice A1 l1.length c1,.bool n2,.slice A2 l2.length c2],.agg #[.bool n3,.slice A3 l3.length c3,.bool n4,.slice A4 l4.length c4]] w (PRes (wOf (x1 * y2 - x2 * y1)) (wOf (y1 * y2)) w):=by
 obtain ⟨np,lp,ep⟩:∃ n l,wOf (x1 * y2)=(n,l):=⟨_,_,rfl⟩;have vp:=vz_mk ep.symm f0;have H0:Hid (∀ W,Sl W A1 l1 c1→Sl W A2 l2 c2→Sl W A3 l3 c3→Sl W A4 l4 c4→Calls Tryz.prog 177 #[.agg #[.bool n1,.slice A1 l1.length c1,.bool n2,.slice A2 l2.length c2],.agg #[.bool n3,.slice A3 l3.length c3,.bool n4,.slice A4 l4.length c4]] W (WRes1 (np,lp) W)):=fun W a b c d=>by rw [← ep]; exact cross_ok n1 n2 n3 n4 A1 A2 A3 A4 l1 l2 l3 l4 c1 c2 c3 c4 x1 y2 h1 h4 f0 W a b c d
 obtain ⟨nq,lq,eq⟩:∃ n l,wOf (x2 * y1)=(n,l):=⟨_,_,rfl⟩;have vq:=vz_mk eq.symm f1;have H1:Hid (∀ W,Sl W A1 l1 c1→Sl W A2 l2 c2→Sl W A3 l3 c3→Sl W A4 l4 c4→Calls Tryz.prog 177 #[.agg #[.bool n3,.slice A3 l3.length c3,.bool n4,.slice A4 l4.length c4],.agg #[.bool n1,.slice A1 l1.length c1,.bool n2,.slice A2 l2.length c2]] W (WRes1 (nq,lq) W)):=fun W a b c d=>by rw [← eq]; exact cross_ok n3 n4 n1 n2 A3 A4 A1 A2 l3 l4 l1 l2 c3 c4 c1 c2 x2 y1 h3 h2 f1 W c d a b
 obtain ⟨ns,ls,es⟩:∃ n l,wOf (x1 * y2 - x2 * y1)=(n,l):=⟨_,_,rfl⟩;have vs:=vz_mk es.symm f2;have H2:Hid (subS np lp nq lq=((ns,ls),0)):=(by rw [← es]; exact subS_z vp vq f2);obtain ⟨nt,lt,et⟩:∃ n l,wOf (y1 * y2)=(n,l):=⟨_,_,rfl⟩;have vt:=vz_mk et.symm f4;have H4:Hid (mulS n2 l2 n4 l4=((nt,lt),0)):=(by rw [← et]; exact mulS_z h2 h4 f4);rw [es,et];have S1:=lh hs1;have S2:=lh hs2;have S3:=lh hs3;have S4:=lh hs4;have B:Hid (Below w.heap.size w w):=Below.refl _ _;clear hs1 hs2 hs3 hs4 h1 h2 h3 h4 f0 ep vp f1 eq vq f2 es vs f4 et vt;go_enter Tryz.func178,Tryz.ntmps178
 go_wp2_with fail
 have KaX:Hid (Cf (w6 w n1 n2 n3 n4 A1 A2 A3 A4 l1 l2 l3 l4 c1 c2 c3 c4) w.heap.size n1 A1 l1.length c1 n2 A2 l2.length c2):=Cf.drew (Cf.keep (Cf.keep (Cf.keep (Cf.fresh (by simp) _ _ _ _ _ _ _ _ _) (blw1 _ _)) (blw1 _ _)) (blw1 _ _));have KbX:Hid (Cf (w6 w n1 n2 n3 n4 A1 A2 A3 A4 l1 l2 l3 l4 c1 c2 c3 c4) (w.heap.size+1) n3 A3 l3.length c3 n4 A4 l4.length c4):=Cf.drew (Cf.keep (Cf.keep (Cf.fresh (by simp) _ _ _ _ _ _ _ _ _) (blw1 _ _)) (blw1 _ _));have KrX:Hid (Cw (w6 w n1 n2 n3 n4 A1 A2 A3 A4 l1 l2 l3 l4 c1 c2 c3 c4) (w.heap.size+1+1) false none 0 0):=Cw.drew (Cw.keep (Cw.fresh (by simp) _ _ _ _ _) (blw1 _ _));have KuX:Hid (Cw (w6 w n1 n2 n3 n4 A1 A2 A3 A4 l1 l2 l3 l4 c1 c2 c3 c4) (w.heap.size+1+1+1) false none 0 0):=Cw.drew (Cw.fresh (by simp) _ _ _ _ _);have FrX:Hid (Fw (w6 w n1 n2 n3 n4 A1 A2 A3 A4 l1 l2 l3 l4 c1 c2 c3 c4) (w.heap.size+1+1)):=Fw.drew (Fw.keep (Fw.fresh (by simp) _ _) (Cw.fresh (by simp) _ _ _ _ _) (blw1 _ _));have FuX:Hid (Fw (w6 w n1 n2 n3 n4 A1 A2 A3 A4 l1 l2 l3 l4 c1 c2 c3 c4) (w.heap.size+1+1+1)):=Fw.drew (Fw.fresh (by simp) _ _);have S1X:Hid (Sl (w6 w n1 n2 n3 n4 A1 A2 A3 A4 l1 l2 l3 l4 c1 c2 c3 c4) A1 l1 c1):=Sl.drew ((((S1.out.alloc _).alloc _).alloc _).alloc _);have S2X:Hid (Sl (w6 w n1 n2 n3 n4 A1 A2 A3 A4 l1 l2 l3 l4 c1 c2 c3 c4) A2 l2 c2):=Sl.drew ((((S2.out.alloc _).alloc _).alloc _).alloc _);have S3X:Hid (Sl (w6 w n1 n2 n3 n4 A1 A2 A3 A4 l1 l2 l3 l4 c1 c2 c3 c4) A3 l3 c3):=Sl.drew ((((S3.out.alloc _).alloc _).alloc _).alloc _);have S4X:Hid (Sl (w6 w n1 n2 n3 n4 A1 A2 A3 A4 l1 l2 l3 l4 c1 c2 c3 c4) A4 l4 c4):=Sl.drew ((((S4.out.alloc _).alloc _).alloc _).alloc _);have BX:Hid (Below w.heap.size w (w6 w n1 n2 n3 n4 A1 A2 A3 A4 l1 l2 l3 l4 c1 c2 c3 c4)):=Below.drew (q0a (q0a (q0a (q0a B.out (blw1 _ _)) (blw1 _ _)) (blw1 _ _)) (blw1 _ _));clear S1 S2 S3 S4 B;have J0:Hid ((w6 w n1 n2 n3 n4 A1 A2 A3 A4 l1 l2 l3 l4 c1 c2 c3 c4).cell? ⟨w.heap.size,0,none⟩=some (.bool n1)∧(w6 w n1 n2 n3 n4 A1 A2 A3 A4 l1 l2 l3 l4 c1 c2 c3 c4).cell? ⟨w.heap.size,1,none⟩=some (.slice A1 l1.length c1)∧(w6 w n1 n2 n3 n4 A1 A2 A3 A4 l1 l2 l3 l4 c1 c2 c3 c4).cell? ⟨w.heap.size,2,none⟩=some (.bool n2)∧(w6 w n1 n2 n3 n4 A1 A2 A3 A4 l1 l2 l3 l4 c1 c2 c3 c4).cell? ⟨w.heap.size,3,none⟩=some (.slice A2 l2.length c2)∧(w6 w n1 n2 n3 n4 A1 A2 A3 A4 l1 l2 l3 l4 c1 c2 c3 c4).cell? ⟨w.heap.size+1,0,none⟩=some (.bool n3)∧(w6 w n1 n2 n3 n4 A1 A2 A3 A4 l1 l2 l3 l4 c1 c2 c3 c4).cell? ⟨w.heap.size+1,1,none⟩=some (.slice A3 l3.length c3)∧(w6 w n1 n2 n3 n4 A1 A2 A3 A4 l1 l2 l3 l4 c1 c2 c3 c4).cell? ⟨w.heap.size+1,2,none⟩=some (.bool n4)∧(w6 w n1 n2 n3 n4 A1 A2 A3 A4 l1 l2 l3 l4 c1 c2 c3 c4).cell? ⟨w.heap.size+1,3,none⟩=some (.slice A4 l4.length c4)):=⟨KaX.out.1,KaX.out.2.1,KaX.out.2.2.1,KaX.out.2.2.2,KbX.out.1,KbX.out.2.1,KbX.out.2.2.1,KbX.out.2.2.2⟩
 go_region_held3 (fun w'=>w'.cell? ⟨w.heap.size,0,none⟩=some (.bool n1)∧w'.cell? ⟨w.heap.size,1,none⟩=some (.slice A1 l1.length c1)∧w'.cell? ⟨w.heap.size,2,none⟩=some (.bool n2)∧w'.cell? ⟨w.heap.size,3,none⟩=some (.slice A2 l2.length c2)∧w'.cell? ⟨w.heap.size+1,0,none⟩=some (.bool n3)∧w'.cell? ⟨w.heap.size+1,1,none⟩=some (.slice A3 l3.length c3)∧w'.cell? ⟨w.heap.size+1,2,none⟩=some (.bool n4)∧w'.cell? ⟨w.heap.size+1,3,none⟩=some (.slice A4 l4.length c4))
  (first | with_reducible exact J6.out | with_reducible exact set8 J6.out (by omega) (by omega) _ _ | with_reducible exact set8 (set8 J6.out (by omega) (by omega) _ _) (by omega) (by omega) _ _ | with_reducible exact J5.out | with_reducible exact J4.out | with_reducible exact J3.out | with_reducible exact J2.out | with_reducible exact J1.out | with_reducible exact J0.out)
  (first
   | (go_at_call 177; (with_reducible refine (H0.out _ S1X.out S2X.out S3X.out S4X.out).mono ?_); rintro e v1 ⟨Ap,cp,rfl,hsp,hb⟩; (try dsimp only at hsp); (try dsimp only); have Kav1:=kF KaX hb; have Kbv1:=kF KbX hb; have Frv1:=kFw FrX KrX hb; have Fuv1:=kFw FuX KuX hb; have Krv1:=kW KrX hb; have Kuv1:=kW KuX hb; have S1v1:=kS S1X hb; have S2v1:=kS S2X hb; have S3v1:=kS S3X hb; have S4v1:=kS S4X hb; have Bv1:=kB BX hb; have J1:Hid (v1.cell? ⟨w.heap.size,0,none⟩=some (.bool n1)∧v1.cell? ⟨w.heap.size,1,none⟩=some (.slice A1 l1.length c1)∧v1.cell? ⟨w.heap.size,2,none⟩=some (.bool n2)∧v1.cell? ⟨w.heap.size,3,none⟩=some (.slice A2 l2.length c2)∧v1.cell? ⟨w.heap.size+1,0,none⟩=some (.bool n3)∧v1.cell? ⟨w.heap.size+1,1,none⟩=some (.slice A3 l3.length c3)∧v1.cell? ⟨w.heap.size+1,2,none⟩=some (.bool n4)∧v1.cell? ⟨w.heap.size+1,3,none⟩=some (.slice A4 l4.length c4)):=⟨Kav1.out.1,Kav1.out.2.1,Kav1.out.2.2.1,Kav1.out.2.2.2,Kbv1.out.1,Kbv1.out.2.1,Kbv1.out.2.2.1,Kbv1.out.2.2.2⟩; have Spv1:Hid (Sl v1 Ap lp cp):=hsp; clear hsp; clear hb)
   | (go_at_call 177; (with_reducible refine (H1.out _ S1v1.out S2v1.out S3v1.out S4v1.out).mono ?_); rintro e v2 ⟨Aq,cq,rfl,hsq,hb⟩; (try dsimp only at hsq); (try dsimp only); have Kav2:=kF Kav1 hb; have Kbv2:=kF Kbv1 hb; have Frv2:=kFw Frv1 Krv1 hb; have Fuv2:=kFw Fuv1 Kuv1 hb; have Krv2:=kW Krv1 hb; have Kuv2:=kW Kuv1 hb; have S1v2:=kS S1v1 hb; have S2v2:=kS S2v1 hb; have S3v2:=kS S3v1 hb; have S4v2:=kS S4v1 hb; have Spv2:=kS Spv1 hb; have Bv2:=kB Bv1 hb; have J2:Hid (v2.cell? ⟨w.heap.size,0,none⟩=some (.bool n1)∧v2.cell? ⟨w.heap.size,1,none⟩=some (.slice A1 l1.length c1)∧v2.cell? ⟨w.heap.size,2,none⟩=some (.bool n2)∧v2.cell? ⟨w.heap.size,3,none⟩=some (.slice A2 l2.length c2)∧v2.cell? ⟨w.heap.size+1,0,none⟩=some (.bool n3)∧v2.cell? ⟨w.heap.size+1,1,none⟩=some (.slice A3 l3.length c3)∧v2.cell? ⟨w.heap.size+1,2,none⟩=some (.bool n4)∧v2.cell? ⟨w.heap.size+1,3,none⟩=some (.slice A4 l4.length c4)):=⟨Kav2.out.1,Kav2.out.2.1,Kav2.out.2.2.1,Kav2.out.2.2.2,Kbv2.out.1,Kbv2.out.2.1,Kbv2.out.2.2.1,Kbv2.out.2.2.2⟩; have Sqv2:Hid (Sl v2 Aq lq cq):=hsq; clear hsq; clear hb)
   | (go_at_call 142; (with_reducible refine (wsub_any np nq _ _ lp lq _ _ _ Spv2.out Sqv2.out).mono ?_); rw [H2.out]; rintro e v3 ⟨As,cs,rfl,hss,hb⟩; (try dsimp only at hss); (try dsimp only); have Kav3:=kF Kav2 hb; have Kbv3:=kF Kbv2 hb; have Frv3:=kFw Frv2 Krv2 hb; have Fuv3:=kFw Fuv2 Kuv2 hb; have Krv3:=kW Krv2 hb; have Kuv3:=kW Kuv2 hb; have S1v3:=kS S1v2 hb; have S2v3:=kS S2v2 hb; have S3v3:=kS S3v2 hb; have S4v3:=kS S4v2 hb; have Spv3:=kS Spv2 hb; have Sqv3:=kS Sqv2 hb; have Bv3:=kB Bv2 hb; have J3:Hid (v3.cell? ⟨w.heap.size,0,none⟩=some (.bool n1)∧v3.cell? ⟨w.heap.size,1,none⟩=some (.slice A1 l1.length c1)∧v3.cell? ⟨w.heap.size,2,none⟩=some (.bool n2)∧v3.cell? ⟨w.heap.size,3,none⟩=some (.slice A2 l2.length c2)∧v3.cell? ⟨w.heap.size+1,0,none⟩=some (.bool n3)∧v3.cell? ⟨w.heap.size+1,1,none⟩=some (.slice A3 l3.length c3)∧v3.cell? ⟨w.heap.size+1,2,none⟩=some (.bool n4)∧v3.cell? ⟨w.heap.size+1,3,none⟩=some (.slice A4 l4.length c4)):=⟨Kav3.out.1,Kav3.out.2.1,Kav3.out.2.2.1,Kav3.out.2.2.2,Kbv3.out.1,Kbv3.out.2.1,Kbv3.out.2.2.1,Kbv3.out.2.2.2⟩; have Ssv3:Hid (Sl v3 As ls cs):=hss; clear hss; clear hb)
   | (go_at_call 127; (with_reducible refine (must_ok ns As ls.length cs _).mono ?_); rintro e v4 ⟨rfl,hb⟩; have Kav4:=kF Kav3 hb; have Kbv4:=kF Kbv3 hb; have Frv4:=kFw Frv3 Krv3 hb; have Fuv4:=kFw Fuv3 Kuv3 hb; have Krv4:=kW Krv3 hb; have Kuv4:=kW Kuv3 hb; have S1v4:=kS S1v3 hb; have S2v4:=kS S2v3 hb; have S3v4:=kS S3v3 hb; have S4v4:=kS S4v3 hb; have Spv4:=kS Spv3 hb; have Sqv4:=kS Sqv3 hb; have Ssv4:=kS Ssv3 hb; have Bv4:=kB Bv3 hb; have J4:Hid (v4.cell? ⟨w.heap.size,0,none⟩=some (.bool n1)∧v4.cell? ⟨w.heap.size,1,none⟩=some (.slice A1 l1.length c1)∧v4.cell? ⟨w.heap.size,2,none⟩=some (.bool n2)∧v4.cell? ⟨w.heap.size,3,none⟩=some (.slice A2 l2.length c2)∧v4.cell? ⟨w.heap.size+1,0,none⟩=some (.bool n3)∧v4.cell? ⟨w.heap.size+1,1,none⟩=some (.slice A3 l3.length c3)∧v4.cell? ⟨w.heap.size+1,2,none⟩=some (.bool n4)∧v4.cell? ⟨w.heap.size+1,3,none⟩=some (.slice A4 l4.length c4)):=⟨Kav4.out.1,Kav4.out.2.1,Kav4.out.2.2.1,Kav4.out.2.2.2,Kbv4.out.1,Kbv4.out.2.1,Kbv4.out.2.2.1,Kbv4.out.2.2.2⟩; clear hb)
   | (go_at_call 93; (with_reducible refine (wmul_any n2 n4 _ _ l2 l4 _ _ _ S2v4.out S4v4.out).mono ?_); rw [H4.out]; rintro e v5 ⟨At,ct,rfl,hst,hb⟩; (try dsimp only at hst); (try dsimp only); have Kav5:=kF Kav4 hb; have Kbv5:=kF Kbv4 hb; have Frv5:=kFw Frv4 Krv4 hb; have Fuv5:=kFw Fuv4 Kuv4 hb; have Krv5:=kW Krv4 hb; have Kuv5:=kW Kuv4 hb; have S1v5:=kS S1v4 hb; have S2v5:=kS S2v4 hb; have S3v5:=kS S3v4 hb; have S4v5:=kS S4v4 hb; have Spv5:=kS Spv4 hb; have Sqv5:=kS Sqv4 hb; have Ssv5:=kS Ssv4 hb; have Bv5:=kB Bv4 hb; have J5:Hid (v5.cell? ⟨w.heap.size,0,none⟩=some (.bool n1)∧v5.cell? ⟨w.heap.size,1,none⟩=some (.slice A1 l1.length c1)∧v5.cell? ⟨w.heap.size,2,none⟩=some (.bool n2)∧v5.cell? ⟨w.heap.size,3,none⟩=some (.slice A2 l2.length c2)∧v5.cell? ⟨w.heap.size+1,0,none⟩=some (.bool n3)∧v5.cell? ⟨w.heap.size+1,1,none⟩=some (.slice A3 l3.length c3)∧v5.cell? ⟨w.heap.size+1,2,none⟩=some (.bool n4)∧v5.cell? ⟨w.heap.size+1,3,none⟩=some (.slice A4 l4.length c4)):=⟨Kav5.out.1,Kav5.out.2.1,Kav5.out.2.2.1,Kav5.out.2.2.2,Kbv5.out.1,Kbv5.out.2.1,Kbv5.out.2.2.1,Kbv5.out.2.2.2⟩; have Stv5:Hid (Sl v5 At lt ct):=hst; clear hst; clear hb)
   | (go_at_call 127; (with_reducible refine (must_ok nt At lt.length ct _).mono ?_); rintro e v6 ⟨rfl,hb⟩; have Kav6:=kF Kav5 hb; have Kbv6:=kF Kbv5 hb; have Frv6:=kFw Frv5 Krv5 hb; have Fuv6:=kFw Fuv5 Kuv5 hb; have Krv6:=kW Krv5 hb; have Kuv6:=kW Kuv5 hb; have S1v6:=kS S1v5 hb; have S2v6:=kS S2v5 hb; have S3v6:=kS S3v5 hb; have S4v6:=kS S4v5 hb; have Spv6:=kS Spv5 hb; have Sqv6:=kS Sqv5 hb; have Ssv6:=kS Ssv5 hb; have Stv6:=kS Stv5 hb; have Bv6:=kB Bv5 hb; have J6:Hid (v6.cell? ⟨w.heap.size,0,none⟩=some (.bool n1)∧v6.cell? ⟨w.heap.size,1,none⟩=some (.slice A1 l1.length c1)∧v6.cell? ⟨w.heap.size,2,none⟩=some (.bool n2)∧v6.cell? ⟨w.heap.size,3,none⟩=some (.slice A2 l2.length c2)∧v6.cell? ⟨w.heap.size+1,0,none⟩=some (.bool n3)∧v6.cell? ⟨w.heap.size+1,1,none⟩=some (.slice A3 l3.length c3)∧v6.cell? ⟨w.heap.size+1,2,none⟩=some (.bool n4)∧v6.cell? ⟨w.heap.size+1,3,none⟩=some (.slice A4 l4.length c4)):=⟨Kav6.out.1,Kav6.out.2.1,Kav6.out.2.2.1,Kav6.out.2.2.2,Kbv6.out.1,Kbv6.out.2.1,Kbv6.out.2.2.1,Kbv6.out.2.2.2⟩; obtain ⟨r0,r1⟩:=Krv6.out; obtain ⟨u0,u1⟩:=Kuv6.out; obtain ⟨g0,g1⟩:=Frv6.out; obtain ⟨g2,g3⟩:=Fuv6.out; clear hb))
 go_wp2
 exact bodyPost_ret (v:=.tuple #[.agg #[.bool ns,.slice As ls.length cs],.agg #[.bool nt,.slice At lt.length ct]]) (by simp [results,Tryz.results178,go_sem,r0,r1,u0,u1]) rfl (pres_end Ssv6.out Stv6.out Krv6.out Kuv6.out Bv6.out (by omega) (by omega) (by omega))
theorem add_bothG (n1 n2 n3 n4:Bool) (A1 A2 A3 A4:Option Addr) (l1 l2 l3 l4:List Nat) (c1 c2 c3 c4:Nat) (hg:(q1b n1 l1 n2 l2 n3 l3 n4 l4 addV).2=0) (w:World) (hs1:Sl w A1 l1 c1) (hs2:Sl w A2 l2 c2) (hs3:Sl w A3 l3 c3) (hs4:Sl w A4 l4 c4) :
  Calls Tryz.prog 174 #[.agg #[.bool n1,.slice A1 l1.length c1,.bool n2,.slice A2 l2.length c2],.agg #[.bool n3,.slice A3 l3.length c3,.bool n4,.slice A4 l4.length c4],.func (.func 176) #[] #[]] w (FRes (q1b n1 l1 n2 l2 n3 l3 n4 l4 addV) w):=by
 have hF:∀ (args:Array Value) (W:World),(callFunc 176 args).run Tryz.prog W=.ok (.enter 176 args) W:=fun _ _=>rfl
 cases hb1:badF n1 l1 n2 l2 with
 | true=>
  have hr:q1b n1 l1 n2 l2 n3 l3 n4 l4 addV=(zF,8):=(by unfold q1b; rw [hb1]; rfl);rw [hr];rw [hr] at hg; exact absurd hg (by decide)
 | false=>
  have k1:chkF n1 l1 n2 l2=0:=by unfold chkF; rw [hb1]; rfl
  cases hb2:badF n3 l3 n4 l4 with
  | true=>
   have hr:q1b n1 l1 n2 l2 n3 l3 n4 l4 addV=(zF,8):=(by unfold q1b; rw [hb1,hb2]; rfl);rw [hr];rw [hr] at hg; exact absurd hg (by decide)
  | false=>
   have k2:chkF n3 l3 n4 l4=0:=(by unfold chkF; rw [hb2]; rfl);have va:=vf_of hs1.lim hs2.lim hb1;have vb:=vf_of hs3.lim hs4.lim hb2;rw [both_good va vb] at hg ⊢;obtain ⟨h1,h2,hp1,_⟩:=va;obtain ⟨h3,h4,hp2,_⟩:=vb;generalize zv n1 l1=x1 at *;generalize zv n2 l2=y1 at *;generalize zv n3 l3=x2 at *;generalize zv n4 l4=y2 at *;unfold addV at hg ⊢;unfold outF at hg ⊢
   cases f0:fitB (x1 * y2) with
   | false=>
    rw [if_neg (by simp)];rw [f0,if_neg (by simp)] at hg; exact absurd hg (by decide)
   | true=>
    cases f1:fitB (x2 * y1) with
    | false=>
     rw [if_neg (by simp)];rw [f1,if_neg (by simp)] at hg; exact absurd hg (by decide)
    | true=>
     cases f2:fitB (x1 * y2+x2 * y1) with
     | false=>
      rw [if_neg (by simp)];rw [f2,if_neg (by simp)] at hg; exact absurd hg (by decide)
     | true=>
      cases f3:fitB (y1 * y2) with
      | false=>
       rw [if_neg (by simp)];rw [f3,if_neg (by simp)] at hg; exact absurd hg (by decide)
      | true=>
       rw [if_pos (by simp)];exact both_ok n1 n2 n3 n4 A1 A2 A3 A4 l1 l2 l3 l4 c1 c2 c3 c4 176 hF k1 k2 _ _ _ _ _ _ (q0p (q0t.1 f2)) (q0p (q0t.1 f3)) (Int.mul_ne_zero (by omega) (by omega)) (fun W a b c d=>add1_ok n1 n2 n3 n4 A1 A2 A3 A4 l1 l2 l3 l4 c1 c2 c3 c4 x1 y1 x2 y2 h1 h2 h3 h4 (q0t.1 f0) (q0t.1 f1) (q0t.1 f2) (q0t.1 f3) W a b c d) w hs1 hs2 hs3 hs4
theorem fadd_of (n1 n2 n3 n4:Bool) (A1 A2 A3 A4:Option Addr) (l1 l2 l3 l4:List Nat) (c1 c2 c3 c4:Nat) (hB:∀ W,Sl W A1 l1 c1→Sl W A2 l2 c2→Sl W A3 l3 c3→Sl W A4 l4 c4→Calls Tryz.prog 174 #[.agg #[.bool n1,.slice A1 l1.length c1,.bool n2,.slice A2 l2.length c2],.agg #[.bool n3,.slice A3 l3.length c3,.bool n4,.slice A4 l4.length c4],.func (.func 176) #[] #[]] W (FRes (q1b n1 l1 n2 l2 n3 l3 n4 l4 addV) W)) (w:World) (hs1:Sl w A1 l1 c1) (hs2:Sl w A2 l2 c2) (hs3:Sl w A3 l3 c3) (hs4:Sl w A4 l4 c4) :
  Calls Tryz.prog 145 #[.agg #[.bool n1,.slice A1 l1.length c1,.bool n2,.slice A2 l2.length c2],.agg #[.bool n3,.slice A3 l3.length c3,.bool n4,.slice A4 l4.length c4]] w (FRes (q1b n1 l1 n2 l2 n3 l3 n4 l4 addV) w):=by
 have S1:=lh hs1;have S2:=lh hs2;have S3:=lh hs3;have S4:=lh hs4;have B:Hid (Below w.heap.size w w):=Below.refl _ _;obtain ⟨⟨⟨⟨np,lp⟩,⟨nq,lq⟩⟩,k⟩,hr⟩:∃ r,r=q1b n1 l1 n2 l2 n3 l3 n4 l4 addV:=⟨_,rfl⟩;have HB:Hid (∀ W,Sl W A1 l1 c1→Sl W A2 l2 c2→Sl W A3 l3 c3→Sl W A4 l4 c4→Calls Tryz.prog 174 #[.agg #[.bool n1,.slice A1 l1.length c1,.bool n2,.slice A2 l2.length c2],.agg #[.bool n3,.slice A3 l3.length c3,.bool n4,.slice A4 l4.length c4],.func (.func 176) #[] #[]] W (FRes (((np,lp),(nq,lq)),k) W)):=fun W a b c d=>by rw [hr]; exact hB W a b c d
 rw [← hr];clear hr hB hs1 hs2 hs3 hs4;go_enter Tryz.func145,Tryz.ntmps145
 go_wp2_with fail
 refine (HB.out _ (((S1.out.alloc _).alloc _).alloc _) (((S2.out.alloc _).alloc _).alloc _) (((S3.out.alloc _).alloc _).alloc _) (((S4.out.alloc _).alloc _).alloc _)).mono ?_;rintro e w1 ⟨A5,c5,A6,c6,rfl,hsp,hsq,hb⟩;replace S1:=kS3 S1 hb;replace S2:=kS3 S2 hb;replace S3:=kS3 S3 hb;replace S4:=kS3 S4 hb;have Fo:Hid (Ff w1 (w.heap.size+1+1)):=Ff.keep (Ff.fresh (by simp) _ _) (Cf.fresh (by simp) _ _ _ _ _ _ _ _ _) hb;have Ka:Hid (Cf w1 w.heap.size n1 A1 l1.length c1 n2 A2 l2.length c2):=Cf.keep (Cf.keep (Cf.keep (Cf.fresh (by simp) _ _ _ _ _ _ _ _ _) (blw1 _ _)) (blw1 _ _)) hb;have Kb:Hid (Cf w1 (w.heap.size+1) n3 A3 l3.length c3 n4 A4 l4.length c4):=Cf.keep (Cf.keep (Cf.fresh (by simp) _ _ _ _ _ _ _ _ _) (blw1 _ _)) hb;have Ko:Hid (Cf w1 (w.heap.size+1+1) false none 0 0 false none 0 0):=Cf.keep (Cf.fresh (by simp) _ _ _ _ _ _ _ _ _) hb;replace B:=kB3 B hb;clear hb;(try dsimp only at hsp hsq);(try dsimp only);have Sp:Hid (Sl w1 A5 lp c5):=hsp;clear hsp;have Sq:Hid (Sl w1 A6 lq c6):=hsq;clear hsq;obtain ⟨qo0,qo1,qo2,qo3⟩:=Ko.out;obtain ⟨fo0,fo1,fo2,fo3⟩:=Fo.out;have hza:=lF Ka;have hzb:=lF Kb;have hzo:=lF Ko;go_wp2_with fail
 exact bodyPost_ret (v:=.tuple #[.agg #[.bool np,.slice A5 lp.length c5,.bool nq,.slice A6 lq.length c6],.int .i64 k]) (by simp [results,Tryz.results145,go_sem,qo0,qo1,qo2,qo3]) rfl (fres_store4 (r:=((np,lp),(nq,lq))) k Sp.out Sq.out Ko.out B.out (by omega) _ _ _ _)
theorem fadd_good (n1 n2 n3 n4:Bool) (A1 A2 A3 A4:Option Addr) (l1 l2 l3 l4:List Nat) (c1 c2 c3 c4:Nat) (hg:(q1b n1 l1 n2 l2 n3 l3 n4 l4 addV).2=0) (w:World) (hs1:Sl w A1 l1 c1) (hs2:Sl w A2 l2 c2) (hs3:Sl w A3 l3 c3) (hs4:Sl w A4 l4 c4) :
  Calls Tryz.prog 145 #[.agg #[.bool n1,.slice A1 l1.length c1,.bool n2,.slice A2 l2.length c2],.agg #[.bool n3,.slice A3 l3.length c3,.bool n4,.slice A4 l4.length c4]] w (FRes (q1b n1 l1 n2 l2 n3 l3 n4 l4 addV) w):=
 fadd_of n1 n2 n3 n4 A1 A2 A3 A4 l1 l2 l3 l4 c1 c2 c3 c4 (fun W a b c d=>add_bothG n1 n2 n3 n4 A1 A2 A3 A4 l1 l2 l3 l4 c1 c2 c3 c4 hg W a b c d) w hs1 hs2 hs3 hs4
theorem sub_bothG (n1 n2 n3 n4:Bool) (A1 A2 A3 A4:Option Addr) (l1 l2 l3 l4:List Nat) (c1 c2 c3 c4:Nat) (hg:(q1b n1 l1 n2 l2 n3 l3 n4 l4 subV).2=0) (w:World) (hs1:Sl w A1 l1 c1) (hs2:Sl w A2 l2 c2) (hs3:Sl w A3 l3 c3) (hs4:Sl w A4 l4 c4) :
  Calls Tryz.prog 174 #[.agg #[.bool n1,.slice A1 l1.length c1,.bool n2,.slice A2 l2.length c2],.agg #[.bool n3,.slice A3 l3.length c3,.bool n4,.slice A4 l4.length c4],.func (.func 178) #[] #[]] w (FRes (q1b n1 l1 n2 l2 n3 l3 n4 l4 subV) w):=by
 have hF:∀ (args:Array Value) (W:World),(callFunc 178 args).run Tryz.prog W=.ok (.enter 178 args) W:=fun _ _=>rfl
 cases hb1:badF n1 l1 n2 l2 with
 | true=>
  have hr:q1b n1 l1 n2 l2 n3 l3 n4 l4 subV=(zF,8):=(by unfold q1b; rw [hb1]; rfl);rw [hr];rw [hr] at hg; exact absurd hg (by decide)
 | false=>
  have k1:chkF n1 l1 n2 l2=0:=by unfold chkF; rw [hb1]; rfl
  cases hb2:badF n3 l3 n4 l4 with
  | true=>
   have hr:q1b n1 l1 n2 l2 n3 l3 n4 l4 subV=(zF,8):=(by unfold q1b; rw [hb1,hb2]; rfl);rw [hr];rw [hr] at hg; exact absurd hg (by decide)
  | false=>
   have k2:chkF n3 l3 n4 l4=0:=(by unfold chkF; rw [hb2]; rfl);have va:=vf_of hs1.lim hs2.lim hb1;have vb:=vf_of hs3.lim hs4.lim hb2;rw [both_good va vb] at hg ⊢;obtain ⟨h1,h2,hp1,_⟩:=va;obtain ⟨h3,h4,hp2,_⟩:=vb;generalize zv n1 l1=x1 at *;generalize zv n2 l2=y1 at *;generalize zv n3 l3=x2 at *;generalize zv n4 l4=y2 at *;unfold subV at hg ⊢;unfold outF at hg ⊢
   cases f0:fitB (x1 * y2) with
   | false=>
    rw [if_neg (by simp)];rw [f0,if_neg (by simp)] at hg; exact absurd hg (by decide)
   | true=>
    cases f1:fitB (x2 * y1) with
    | false=>
     rw [if_neg (by simp)];rw [f1,if_neg (by simp)] at hg; exact absurd hg (by decide)
    | true=>
     cases f2:fitB (x1 * y2 - x2 * y1) with
     | false=>
      rw [if_neg (by simp)];rw [f2,if_neg (by simp)] at hg; exact absurd hg (by decide)
     | true=>
      cases f3:fitB (y1 * y2) with
      | false=>
       rw [if_neg (by simp)];rw [f3,if_neg (by simp)] at hg; exact absurd hg (by decide)
      | true=>
       rw [if_pos (by simp)];exact both_ok n1 n2 n3 n4 A1 A2 A3 A4 l1 l2 l3 l4 c1 c2 c3 c4 178 hF k1 k2 _ _ _ _ _ _ (q0p (q0t.1 f2)) (q0p (q0t.1 f3)) (Int.mul_ne_zero (by omega) (by omega)) (fun W a b c d=>sub1_ok n1 n2 n3 n4 A1 A2 A3 A4 l1 l2 l3 l4 c1 c2 c3 c4 x1 y1 x2 y2 h1 h2 h3 h4 (q0t.1 f0) (q0t.1 f1) (q0t.1 f2) (q0t.1 f3) W a b c d) w hs1 hs2 hs3 hs4
theorem fsub_of (n1 n2 n3 n4:Bool) (A1 A2 A3 A4:Option Addr) (l1 l2 l3 l4:List Nat) (c1 c2 c3 c4:Nat) (hB:∀ W,Sl W A1 l1 c1→Sl W A2 l2 c2→Sl W A3 l3 c3→Sl W A4 l4 c4→Calls Tryz.prog 174 #[.agg #[.bool n1,.slice A1 l1.length c1,.bool n2,.slice A2 l2.length c2],.agg #[.bool n3,.slice A3 l3.length c3,.bool n4,.slice A4 l4.length c4],.func (.func 178) #[] #[]] W (FRes (q1b n1 l1 n2 l2 n3 l3 n4 l4 subV) W)) (w:World) (hs1:Sl w A1 l1 c1) (hs2:Sl w A2 l2 c2) (hs3:Sl w A3 l3 c3) (hs4:Sl w A4 l4 c4) :
  Calls Tryz.prog 146 #[.agg #[.bool n1,.slice A1 l1.length c1,.bool n2,.slice A2 l2.length c2],.agg #[.bool n3,.slice A3 l3.length c3,.bool n4,.slice A4 l4.length c4]] w (FRes (q1b n1 l1 n2 l2 n3 l3 n4 l4 subV) w):=by
 have S1:=lh hs1;have S2:=lh hs2;have S3:=lh hs3;have S4:=lh hs4;have B:Hid (Below w.heap.size w w):=Below.refl _ _;obtain ⟨⟨⟨⟨np,lp⟩,⟨nq,lq⟩⟩,k⟩,hr⟩:∃ r,r=q1b n1 l1 n2 l2 n3 l3 n4 l4 subV:=⟨_,rfl⟩;have HB:Hid (∀ W,Sl W A1 l1 c1→Sl W A2 l2 c2→Sl W A3 l3 c3→Sl W A4 l4 c4→Calls Tryz.prog 174 #[.agg #[.bool n1,.slice A1 l1.length c1,.bool n2,.slice A2 l2.length c2],.agg #[.bool n3,.slice A3 l3.length c3,.bool n4,.slice A4 l4.length c4],.func (.func 178) #[] #[]] W (FRes (((np,lp),(nq,lq)),k) W)):=fun W a b c d=>by rw [hr]; exact hB W a b c d
 rw [← hr];clear hr hB hs1 hs2 hs3 hs4;go_enter Tryz.func146,Tryz.ntmps146
 go_wp2_with fail
 refine (HB.out _ (((S1.out.alloc _).alloc _).alloc _) (((S2.out.alloc _).alloc _).alloc _) (((S3.out.alloc _).alloc _).alloc _) (((S4.out.alloc _).alloc _).alloc _)).mono ?_;rintro e w1 ⟨A5,c5,A6,c6,rfl,hsp,hsq,hb⟩;replace S1:=kS3 S1 hb;replace S2:=kS3 S2 hb;replace S3:=kS3 S3 hb;replace S4:=kS3 S4 hb;have Fo:Hid (Ff w1 (w.heap.size+1+1)):=Ff.keep (Ff.fresh (by simp) _ _) (Cf.fresh (by simp) _ _ _ _ _ _ _ _ _) hb;have Ka:Hid (Cf w1 w.heap.size n1 A1 l1.length c1 n2 A2 l2.length c2):=Cf.keep (Cf.keep (Cf.keep (Cf.fresh (by simp) _ _ _ _ _ _ _ _ _) (blw1 _ _)) (blw1 _ _)) hb;have Kb:Hid (Cf w1 (w.heap.size+1) n3 A3 l3.length c3 n4 A4 l4.length c4):=Cf.keep (Cf.keep (Cf.fresh (by simp) _ _ _ _ _ _ _ _ _) (blw1 _ _)) hb;have Ko:Hid (Cf w1 (w.heap.size+1+1) false none 0 0 false none 0 0):=Cf.keep (Cf.fresh (by simp) _ _ _ _ _ _ _ _ _) hb;replace B:=kB3 B hb;clear hb;(try dsimp only at hsp hsq);(try dsimp only);have Sp:Hid (Sl w1 A5 lp c5):=hsp;clear hsp;have Sq:Hid (Sl w1 A6 lq c6):=hsq;clear hsq;obtain ⟨qo0,qo1,qo2,qo3⟩:=Ko.out;obtain ⟨fo0,fo1,fo2,fo3⟩:=Fo.out;have hza:=lF Ka;have hzb:=lF Kb;have hzo:=lF Ko;go_wp2_with fail
 exact bodyPost_ret (v:=.tuple #[.agg #[.bool np,.slice A5 lp.length c5,.bool nq,.slice A6 lq.length c6],.int .i64 k]) (by simp [results,Tryz.results146,go_sem,qo0,qo1,qo2,qo3]) rfl (fres_store4 (r:=((np,lp),(nq,lq))) k Sp.out Sq.out Ko.out B.out (by omega) _ _ _ _)
theorem fsub_good (n1 n2 n3 n4:Bool) (A1 A2 A3 A4:Option Addr) (l1 l2 l3 l4:List Nat) (c1 c2 c3 c4:Nat) (hg:(q1b n1 l1 n2 l2 n3 l3 n4 l4 subV).2=0) (w:World) (hs1:Sl w A1 l1 c1) (hs2:Sl w A2 l2 c2) (hs3:Sl w A3 l3 c3) (hs4:Sl w A4 l4 c4) :
  Calls Tryz.prog 146 #[.agg #[.bool n1,.slice A1 l1.length c1,.bool n2,.slice A2 l2.length c2],.agg #[.bool n3,.slice A3 l3.length c3,.bool n4,.slice A4 l4.length c4]] w (FRes (q1b n1 l1 n2 l2 n3 l3 n4 l4 subV) w):=
 fsub_of n1 n2 n3 n4 A1 A2 A3 A4 l1 l2 l3 l4 c1 c2 c3 c4 (fun W a b c d=>sub_bothG n1 n2 n3 n4 A1 A2 A3 A4 l1 l2 l3 l4 c1 c2 c3 c4 hg W a b c d) w hs1 hs2 hs3 hs4
theorem mul_bothG (n1 n2 n3 n4:Bool) (A1 A2 A3 A4:Option Addr) (l1 l2 l3 l4:List Nat) (c1 c2 c3 c4:Nat) (hg:(q1b n1 l1 n2 l2 n3 l3 n4 l4 mulV).2=0) (w:World) (hs1:Sl w A1 l1 c1) (hs2:Sl w A2 l2 c2) (hs3:Sl w A3 l3 c3) (hs4:Sl w A4 l4 c4) :
  Calls Tryz.prog 174 #[.agg #[.bool n1,.slice A1 l1.length c1,.bool n2,.slice A2 l2.length c2],.agg #[.bool n3,.slice A3 l3.length c3,.bool n4,.slice A4 l4.length c4],.func (.func 175) #[] #[]] w (FRes (q1b n1 l1 n2 l2 n3 l3 n4 l4 mulV) w):=by
 have hF:∀ (args:Array Value) (W:World),(callFunc 175 args).run Tryz.prog W=.ok (.enter 175 args) W:=fun _ _=>rfl
 cases hb1:badF n1 l1 n2 l2 with
 | true=>
  have hr:q1b n1 l1 n2 l2 n3 l3 n4 l4 mulV=(zF,8):=(by unfold q1b; rw [hb1]; rfl);rw [hr];rw [hr] at hg; exact absurd hg (by decide)
 | false=>
  have k1:chkF n1 l1 n2 l2=0:=by unfold chkF; rw [hb1]; rfl
  cases hb2:badF n3 l3 n4 l4 with
  | true=>
   have hr:q1b n1 l1 n2 l2 n3 l3 n4 l4 mulV=(zF,8):=(by unfold q1b; rw [hb1,hb2]; rfl);rw [hr];rw [hr] at hg; exact absurd hg (by decide)
  | false=>
   have k2:chkF n3 l3 n4 l4=0:=(by unfold chkF; rw [hb2]; rfl);have va:=vf_of hs1.lim hs2.lim hb1;have vb:=vf_of hs3.lim hs4.lim hb2;rw [both_good va vb] at hg ⊢;obtain ⟨h1,h2,hp1,_⟩:=va;obtain ⟨h3,h4,hp2,_⟩:=vb;generalize zv n1 l1=x1 at *;generalize zv n2 l2=y1 at *;generalize zv n3 l3=x2 at *;generalize zv n4 l4=y2 at *;unfold mulV at hg ⊢;unfold outF at hg ⊢
   cases f0:fitB (x1 * x2) with
   | false=>
    rw [if_neg (by simp)];rw [f0,if_neg (by simp)] at hg; exact absurd hg (by decide)
   | true=>
    cases f1:fitB (y1 * y2) with
    | false=>
     rw [if_neg (by simp)];rw [f1,if_neg (by simp)] at hg; exact absurd hg (by decide)
    | true=>
     rw [if_pos (by simp)];exact both_ok n1 n2 n3 n4 A1 A2 A3 A4 l1 l2 l3 l4 c1 c2 c3 c4 175 hF k1 k2 _ _ _ _ _ _ (q0p (q0t.1 f0)) (q0p (q0t.1 f1)) (Int.mul_ne_zero (by omega) (by omega)) (fun W a b c d=>mul1_ok n1 n2 n3 n4 A1 A2 A3 A4 l1 l2 l3 l4 c1 c2 c3 c4 x1 y1 x2 y2 h1 h2 h3 h4 (q0t.1 f0) (q0t.1 f1) W a b c d) w hs1 hs2 hs3 hs4
theorem fmul_of (n1 n2 n3 n4:Bool) (A1 A2 A3 A4:Option Addr) (l1 l2 l3 l4:List Nat) (c1 c2 c3 c4:Nat) (hB:∀ W,Sl W A1 l1 c1→Sl W A2 l2 c2→Sl W A3 l3 c3→Sl W A4 l4 c4→Calls Tryz.prog 174 #[.agg #[.bool n1,.slice A1 l1.length c1,.bool n2,.slice A2 l2.length c2],.agg #[.bool n3,.slice A3 l3.length c3,.bool n4,.slice A4 l4.length c4],.func (.func 175) #[] #[]] W (FRes (q1b n1 l1 n2 l2 n3 l3 n4 l4 mulV) W)) (w:World) (hs1:Sl w A1 l1 c1) (hs2:Sl w A2 l2 c2) (hs3:Sl w A3 l3 c3) (hs4:Sl w A4 l4 c4) :
  Calls Tryz.prog 144 #[.agg #[.bool n1,.slice A1 l1.length c1,.bool n2,.slice A2 l2.length c2],.agg #[.bool n3,.slice A3 l3.length c3,.bool n4,.slice A4 l4.length c4]] w (FRes (q1b n1 l1 n2 l2 n3 l3 n4 l4 mulV) w):=by
 have S1:=lh hs1;have S2:=lh hs2;have S3:=lh hs3;have S4:=lh hs4;have B:Hid (Below w.heap.size w w):=Below.refl _ _;obtain ⟨⟨⟨⟨np,lp⟩,⟨nq,lq⟩⟩,k⟩,hr⟩:∃ r,r=q1b n1 l1 n2 l2 n3 l3 n4 l4 mulV:=⟨_,rfl⟩;have HB:Hid (∀ W,Sl W A1 l1 c1→Sl W A2 l2 c2→Sl W A3 l3 c3→Sl W A4 l4 c4→Calls Tryz.prog 174 #[.agg #[.bool n1,.slice A1 l1.length c1,.bool n2,.slice A2 l2.length c2],.agg #[.bool n3,.slice A3 l3.length c3,.bool n4,.slice A4 l4.length c4],.func (.func 175) #[] #[]] W (FRes (((np,lp),(nq,lq)),k) W)):=fun W a b c d=>by rw [hr]; exact hB W a b c d
 rw [← hr];clear hr hB hs1 hs2 hs3 hs4;go_enter Tryz.func144,Tryz.ntmps144
 go_wp2_with fail
 refine (HB.out _ (((S1.out.alloc _).alloc _).alloc _) (((S2.out.alloc _).alloc _).alloc _) (((S3.out.alloc _).alloc _).alloc _) (((S4.out.alloc _).alloc _).alloc _)).mono ?_;rintro e w1 ⟨A5,c5,A6,c6,rfl,hsp,hsq,hb⟩;replace S1:=kS3 S1 hb;replace S2:=kS3 S2 hb;replace S3:=kS3 S3 hb;replace S4:=kS3 S4 hb;have Fo:Hid (Ff w1 (w.heap.size+1+1)):=Ff.keep (Ff.fresh (by simp) _ _) (Cf.fresh (by simp) _ _ _ _ _ _ _ _ _) hb;have Ka:Hid (Cf w1 w.heap.size n1 A1 l1.length c1 n2 A2 l2.length c2):=Cf.keep (Cf.keep (Cf.keep (Cf.fresh (by simp) _ _ _ _ _ _ _ _ _) (blw1 _ _)) (blw1 _ _)) hb;have Kb:Hid (Cf w1 (w.heap.size+1) n3 A3 l3.length c3 n4 A4 l4.length c4):=Cf.keep (Cf.keep (Cf.fresh (by simp) _ _ _ _ _ _ _ _ _) (blw1 _ _)) hb;have Ko:Hid (Cf w1 (w.heap.size+1+1) false none 0 0 false none 0 0):=Cf.keep (Cf.fresh (by simp) _ _ _ _ _ _ _ _ _) hb;replace B:=kB3 B hb;clear hb;(try dsimp only at hsp hsq);(try dsimp only);have Sp:Hid (Sl w1 A5 lp c5):=hsp;clear hsp;have Sq:Hid (Sl w1 A6 lq c6):=hsq;clear hsq;obtain ⟨qo0,qo1,qo2,qo3⟩:=Ko.out;obtain ⟨fo0,fo1,fo2,fo3⟩:=Fo.out;have hza:=lF Ka;have hzb:=lF Kb;have hzo:=lF Ko;go_wp2_with fail
 exact bodyPost_ret (v:=.tuple #[.agg #[.bool np,.slice A5 lp.length c5,.bool nq,.slice A6 lq.length c6],.int .i64 k]) (by simp [results,Tryz.results144,go_sem,qo0,qo1,qo2,qo3]) rfl (fres_store4 (r:=((np,lp),(nq,lq))) k Sp.out Sq.out Ko.out B.out (by omega) _ _ _ _)
theorem fmul_good (n1 n2 n3 n4:Bool) (A1 A2 A3 A4:Option Addr) (l1 l2 l3 l4:List Nat) (c1 c2 c3 c4:Nat) (hg:(q1b n1 l1 n2 l2 n3 l3 n4 l4 mulV).2=0) (w:World) (hs1:Sl w A1 l1 c1) (hs2:Sl w A2 l2 c2) (hs3:Sl w A3 l3 c3) (hs4:Sl w A4 l4 c4) :
  Calls Tryz.prog 144 #[.agg #[.bool n1,.slice A1 l1.length c1,.bool n2,.slice A2 l2.length c2],.agg #[.bool n3,.slice A3 l3.length c3,.bool n4,.slice A4 l4.length c4]] w (FRes (q1b n1 l1 n2 l2 n3 l3 n4 l4 mulV) w):=
 fmul_of n1 n2 n3 n4 A1 A2 A3 A4 l1 l2 l3 l4 c1 c2 c3 c4 (fun W a b c d=>mul_bothG n1 n2 n3 n4 A1 A2 A3 A4 l1 l2 l3 l4 c1 c2 c3 c4 hg W a b c d) w hs1 hs2 hs3 hs4
end Go.Proofs.YtjlmoilceacldaaGreat
namespace Go.Proofs.YtjlmoilceacldaaGreat
open Lib renaming hid → lh
open Go.RowKit
attribute [local go_sem ↓] Go.wp_at_zero Go.wp_at_succ
theorem FRes.alloc {r:((Bool × List Nat) × (Bool × List Nat)) × Int} {w w':World} {e:Ending} (h:FRes r w e w') (o:Obj):FRes r w e (w'.alloc o):=by
 obtain ⟨A,c,A',c',rfl,h1,h2,hb⟩:=h;exact ⟨A,c,A',c',rfl,h1.alloc o,h2.alloc o,q0a hb (blw1 _ _)⟩
end Go.Proofs.YtjlmoilceacldaaGreat
namespace Go.Proofs.YtjlmoilceacldaaGreat
open Lib renaming hid → lh
open Go.RowKit
attribute [local go_sem ↓] Go.wp_at_zero Go.wp_at_succ
end Go.Proofs.YtjlmoilceacldaaGreat
namespace Go.Proofs.YtjlmoilceacldaaGreat
open Lib renaming hid → lh
open Go.RowKit
attribute [local go_sem ↓] Go.wp_at_zero Go.wp_at_succ
def okF (W H:Int) (l:List Int):Bool:=decide (1≤W) && decide (W≤100) && decide (1≤H) && decide (H≤100) && decide ((l.length:Int)=W * H) && l.all fun x=>decide (-4294967296≤x) && decide (x≤4294967296)
def fchk (W H:Int) (l:List Int):Int:=if okF W H l then 0 else 8
structure FD where
 W:Int
 H:Int
 A:Option Addr
 l:List Int
 c:Nat
def FD.cells (f:FD):List Value:=[.int .i64 f.W,.int .i64 f.H,.slice f.A f.l.length f.c]
def FD.chk (f:FD):Int:=fchk f.W f.H f.l
structure OkD (w:World) (B:Nat) (f:FD):Prop where
 sl:SlI w B f.A f.l f.c
 w1 : -9223372036854775808≤f.W
 w2:f.W≤9223372036854775807
 h1 : -9223372036854775808≤f.H
 h2:f.H≤9223372036854775807
theorem OkD.below {w w':World} {B:Nat} {f:FD} (h:OkD w B f) (hb:Below w.heap.size w w'):OkD w' B f:=⟨h.sl.below hb,h.w1,h.w2,h.h1,h.h2⟩
structure SlD (w:World) (B:Nat) (A:Option Addr) (fs:List FD) (c:Nat):Prop where
 rd:RdV w B A (fs.flatMap FD.cells)
 all:∀ f∈fs,OkD w B f
 le:fs.length≤c
 len:fs.length≤4398046511104
theorem flat3:∀ (fs:List FD) (k j:Nat) (hk:k < fs.length),j < 3→(fs.flatMap FD.cells)[k * 3+j]? = (fs[k]'hk).cells[j]?
 | [],k,j,hk,_=>by simp at hk
 | f :: t,0,j,_,hj=>by
  rw [List.flatMap_cons,Nat.zero_mul,Nat.zero_add,List.getElem?_append_left (by simpa [FD.cells] using hj)]; rfl
 | f :: t,k+1,j,hk,hj=>by
  have h:=flat3 t k j (by simpa using hk) hj;rw [List.flatMap_cons,List.getElem?_append_right (by simp [FD.cells]; omega)];have e:(k+1) * 3+j - f.cells.length=k * 3+j:=(by simp [FD.cells]; omega);rw [e,h]; rfl
theorem SlD.below {w w':World} {B:Nat} {A:Option Addr} {fs:List FD} {c:Nat} (h:SlD w B A fs c) (hb:Below w.heap.size w w'):SlD w' B A fs c:=
 ⟨h.rd.below hb,fun f hf=>(h.all f hf).below hb,h.le,h.len⟩
theorem SlD.at_ {w:World} {B:Nat} {A:Option Addr} {fs:List FD} {c k:Nat} (h:SlD w B A fs c) (hk:k < fs.length) :
  ∃ b o,A=some ⟨b,o,none⟩∧b < B∧w.cell? ⟨b,o+k * 3,none⟩=some (.int .i64 (fs[k]'hk).W)∧w.cell? ⟨b,o+k * 3+1,none⟩=some (.int .i64 (fs[k]'hk).H)∧w.cell? ⟨b,o+k * 3+2,none⟩=some (.slice (fs[k]'hk).A (fs[k]'hk).l.length (fs[k]'hk).c)∧OkD w B (fs[k]'hk):=by
 have hl:0 < (fs.flatMap FD.cells).length:=by
  have h0:=flat3 fs k 0 hk (by omega);rcases Nat.eq_zero_or_pos (fs.flatMap FD.cells).length with e | e
  ·rw [List.eq_nil_of_length_eq_zero e] at h0; simp [FD.cells] at h0
  ·exact e
 obtain ⟨b,o,e,hb,hc⟩:=h.rd hl;refine ⟨b,o,e,hb,hc (k * 3) _ ?_,?_,?_,h.all _ (List.getElem_mem hk)⟩
 ·exact (flat3 fs k 0 hk (by omega)).trans rfl
 ·rw [Nat.add_assoc]; exact hc (k * 3+1) _ ((flat3 fs k 1 hk (by omega)).trans rfl)
 ·rw [Nat.add_assoc]; exact hc (k * 3+2) _ ((flat3 fs k 2 hk (by omega)).trans rfl)
end Go.Proofs.YtjlmoilceacldaaGreat
namespace Go.Proofs.YtjlmoilceacldaaGreat
open Lib renaming hid → lh
open Go.RowKit
theorem or_mul32 (x0 x1:Nat) (h0:x0 < 4294967296) (h1:x1 < 4294967296):bits .or .u64 (x0:Int) ((x1:Int) * 4294967296)=((x0+x1 * 4294967296:Nat):Int):=by
 rw [u64_or _ _ (by omega) (by omega) (by omega) (by omega)];congr 1
 rw [Int.toNat_natCast,show ((x1:Int) * 4294967296).toNat=2 ^ 32 * x1 by omega,Nat.or_comm,← Nat.two_pow_add_eq_or_of_lt (by omega)];omega
theorem or_zero32 (x0:Nat) (h0:x0 < 4294967296):bits .or .u64 0 (x0:Int)=(x0:Int):=by
 rw [u64_or _ _ (by omega) (by omega) (by omega) (by omega)];simp
theorem int_any (neg:Bool) (A:Option Addr) (l:List Nat) (c:Nat) (w:World) (hs:Sl w A l c) :
  Calls Tryz.prog 96 #[.agg #[.bool neg,.slice A l.length c]] w fun e w'=>e=.returned (.tuple #[.int .i64 (intS neg l).1,.int .i64 (intS neg l).2])∧Below w.heap.size w w':=by
 have Hlim:=lh hs.lim;have Hs:=lh hs;clear hs;cases hbad:badL neg l
 ·have hc:=q1v hbad;have Hgood:=lh (q0j Hlim.out hbad);have Hbad:=lh hbad;clear hbad;have HZ:Hid (zv neg l=if neg then -((val l:Nat):Int) else ((val l:Nat):Int)):=rfl;by_cases h2:2 < l.length
  ·have hr:intS neg l=(0,16):=by
    have h3:=Hgood.out.1.2 (by omega);have h4:pv l l.length=val l:=q0x (Nat.le_refl _);rw [show l.length=(l.length - 1)+1 by omega,q0l] at h4;have h5:4294967296 ^ 2≤4294967296 ^ (l.length - 1):=Nat.pow_le_pow_right (by omega) (by omega);have h6:1 * 4294967296 ^ (l.length - 1)≤l[l.length - 1]?.getD 0 * 4294967296 ^ (l.length - 1):=Nat.mul_le_mul_right _ (by omega);rw [intS,if_neg (by rw [Hbad.out]; simp),if_neg];rw [HZ.out];generalize val l=v at *;cases neg
    ·simp; omega
    ·simp; omega
   rw [hr];clear hr;go_enter Tryz.func96,Tryz.ntmps96
   go_wp2_with fail
   refine (q0e _ [⟨neg,A,l,c⟩] (by simp) _ ?hc).mono ?_
   case hc=>exact Wcs.one (Hs.out.alloc _) (by simp)
   rintro e w1 ⟨rfl,hb⟩;rw [q0v];have q0:w1.cell? ⟨w.heap.size,0,none⟩=some (.bool neg):=q0b hb (by go_simp);have q1:w1.cell? ⟨w.heap.size,1,none⟩=some (.slice A l.length c):=q0b hb (by go_simp);have Hb:=lh (q0a (blw2 _ _ _) hb);clear hb;go_wp2
   go_ret2
   exact ⟨rfl,Hb.out⟩
  ·go_enter Tryz.func96,Tryz.ntmps96
   go_wp2_with fail
   refine (q0e _ [⟨neg,A,l,c⟩] (by simp) _ ?hc).mono ?_
   case hc=>exact Wcs.one (Hs.out.alloc _) (by simp)
   rintro e w1 ⟨rfl,hb⟩;rw [q0v];have q0:w1.cell? ⟨w.heap.size,0,none⟩=some (.bool neg):=q0b hb (by go_simp);have q1:w1.cell? ⟨w.heap.size,1,none⟩=some (.slice A l.length c):=q0b hb (by go_simp);have Hs1:=lh (((Hs.out.alloc _).alloc _).below hb);have Hb:=lh (q0a (blw2 _ _ _) hb);clear hb;go_wp2
   go_loop [5,6,7,21] (fun u _ _ i=>∃ k:Nat,k≤l.length∧i=.int .i64 k∧u=.int .u64 (pv l k:Nat)) (fun _ _ _ i=>l.length - (intOf i).toNat)
   case atStart=>exact ⟨0,Nat.zero_le _,rfl,rfl⟩
   case round=>
    obtain ⟨k,hk,rfl,rfl⟩:=hrel;by_cases hlt:k < l.length
    ·obtain ⟨b,o,rfl,hx⟩:=Hs1.out.rd.at_ (k:=k) hlt;have hx2:=q0n Hlim.out k;rcases (show k=0∨k=1 by omega) with rfl | rfl
     ·rw [Nat.add_zero] at hx;rw [pv_zero];have hp:pv l 1=l[0]?.getD 0:=(by rw [q0l,pv_zero]; simp);generalize l[0]?.getD 0=x0 at *;have Hp:=lh hp;clear hp;go_wp2
      go_round
      case rel=>exact ⟨1,by omega,rfl,by rw [Hp.out]; exact congrArg (Value.int .u64) (or_zero32 x0 hx2)⟩
      case measure=>simp [intOf]; omega
     ·have hp1:pv l 1 < 4294967296:=pv_lt Hlim.out 1;have hp:pv l 2=pv l 1+l[1]?.getD 0 * 4294967296:=(by rw [q0l]);generalize pv l 1=x0 at *;generalize l[1]?.getD 0=x1 at *;have Hp:=lh hp;clear hp;go_wp2
      go_round
      case rel=>exact ⟨2,by omega,rfl,by rw [Hp.out]; exact congrArg (Value.int .u64) (or_mul32 x0 x1 hp1 hx2)⟩
      case measure=>simp [intOf]; omega
    ·have hp:pv l k=val l:=q0x (by omega);rw [hp];have hI:intS neg l=if -9223372036854775808≤zv neg l∧zv neg l≤9223372036854775807 then (zv neg l,0) else (0,16):=(by rw [intS,if_neg (by rw [Hbad.out]; simp)]);rw [HZ.out] at hI;obtain ⟨U,hU⟩:∃ U:Int,U=((val l:Nat):Int):=⟨_,rfl⟩;rw [← hU] at hI ⊢;have HI:=lh hI;have hU0:0≤U:=(by omega);clear hp hU hI;cases neg
     ·by_cases hle:U < 9223372036854775808
      ·have hr:intS false l=(U,0):=(by rw [HI.out]; simp only [Bool.false_eq_true,if_false]; rw [if_pos (by omega)]);have Hr:=lh hr;clear hr;go_wp2
       go_ret2
       exact ⟨by rw [Hr.out]; rfl,Hb.out⟩
      ·have hr:intS false l=(0,16):=(by rw [HI.out]; simp only [Bool.false_eq_true,if_false]; rw [if_neg (by omega)]);have Hr:=lh hr;clear hr;go_wp2
       go_ret2
       exact ⟨by rw [Hr.out]; rfl,Hb.out⟩
     ·by_cases hle:U≤9223372036854775808
      ·have hr:intS true l=(-U,0):=(by rw [HI.out]; simp only [if_true]; rw [if_pos (by omega)]);have Hr:=lh hr;clear hr;have hw:wrap64 (IntKind.u64.wrap (-U)) = -U:=(by unfold wrap64; rw [IntKind.wrap_u64]; omega);have Hw:=lh hw;clear hw;go_wp2
       go_ret2
       exact ⟨by rw [Hr.out]; exact congrArg (fun z=>Ending.returned (.tuple #[.int .i64 z,.int .i64 0])) Hw.out,Hb.out⟩
      ·have hr:intS true l=(0,16):=(by rw [HI.out]; simp only [if_true]; rw [if_neg (by omega)]);have Hr:=lh hr;clear hr;go_wp2
       go_ret2
       exact ⟨by rw [Hr.out]; rfl,Hb.out⟩
 ·have hr:intS neg l=(0,8):=(by rw [intS,if_pos hbad]);have hc:=chk_bad hbad;rw [hr];clear hr hbad;go_enter Tryz.func96,Tryz.ntmps96
  go_wp2_with fail
  refine (q0e _ [⟨neg,A,l,c⟩] (by simp) _ ?hc).mono ?_
  case hc=>exact Wcs.one (Hs.out.alloc _) (by simp)
  rintro e w1 ⟨rfl,hb⟩;rw [q0v];have Hb:=lh (q0a (blw2 _ _ _) hb);clear hb;go_wp2
  go_ret2
  exact ⟨rfl,Hb.out⟩
end Go.Proofs.YtjlmoilceacldaaGreat
namespace Go.Proofs.YtjlmoilceacldaaGreat
open Lib renaming hid → lh
open Go.RowKit
attribute [local go_sem ↓] Go.wp_at_zero Go.wp_at_succ
theorem BlkV.but {w w':World} {g g':Nat} {t:TypeId} {cs:Array Value} (h:BlkV w g t cs) (hb:But g' w w') (hne:g≠g'):BlkV w' g t cs:=(hb.block g h.lt hne).trans h
theorem Sl.st {w w':World} {A:Option Addr} {l:List Nat} {c g:Nat} {t:TypeId} {x:Int} (h:Sl w A l c) (k:BlkV w g t #[.int .i64 x]) (hb:But g w w'):Sl w' A l c:=by
 refine ⟨fun hl=>?_,h.lim,h.le,h.len⟩;obtain ⟨b,o,e,hc⟩:=h.rd hl;refine ⟨b,o,e,fun i hi=>?_⟩;refine hb.cell (hc i hi) (fun e2=>?_);have e2:b=g:=e2;subst e2;have h1:=(k.cell (o+i)).symm.trans (hc i hi);rcases Nat.eq_zero_or_pos (o+i) with h0 | h0
 ·rw [h0] at h1; simp at h1
 ·rw [Array.getElem?_eq_none (by simp; omega)] at h1; cases h1
theorem SlI.but {w w':World} {B g:Nat} {A:Option Addr} {l:List Int} {c:Nat} (h:SlI w B A l c) (hb:But g w w') (hg:B≤g):SlI w' B A l c:=
 ⟨fun hl=>by
  obtain ⟨b,o,e,hB,hc⟩:=h.rd hl;exact ⟨b,o,e,hB,fun i v hv=>hb.cell (hc i v hv) (by show b≠g; omega)⟩,h.lim,h.le,h.len⟩
end Go.Proofs.YtjlmoilceacldaaGreat
namespace Go.Proofs.YtjlmoilceacldaaGreat
open Lib renaming hid → lh
open Go.RowKit
end Go.Proofs.YtjlmoilceacldaaGreat
namespace Go.Proofs.YtjlmoilceacldaaGreat
open Lib renaming hid → lh
open Go.RowKit
def put6 (a:Act) (s1 s2 s3 s4 s5 s6:Nat) (u1 u2 u3 u4 u5 u6:Value):Act:=(((((a.put (some s1) u1).put (some s2) u2).put (some s3) u3).put (some s4) u4).put (some s5) u5).put (some s6) u6
section
variable {a:Act} {s1 s2 s3 s4 s5 s6 t:Nat}
end
def SAB (ga:Nat) (na:Bool) (A1:Option Addr) (m1 c1:Nat) (gb:Nat) (nb:Bool) (A2:Option Addr) (m2 c2:Nat) (W:World):Prop:=Cw W ga na A1 m1 c1∧Cw W gb nb A2 m2 c2
structure PI (w:World) (S:World→Prop) (la lb:List Nat) (na nb:Bool) (VA VB:Value) (gb:Nat) (d0 d1 d2 d3 d4 d5 d6 d7:Bool) (u1 u2 u3 u4 u5 u6:Value) (W:World) (o5 o6:Option (Nat × Bool × Option Addr × Nat × Nat)) (x1 x2:Option (Option Addr × Nat)):Prop where
 rs:RS w S la lb o5 o6 x1 x2 W
 p0:d0=true→u1=VA
 p2:d2=true→u3=VB
 p1:d1=false→x1=none
 q1:d1=true→∃ A c,x1=some (A,c)∧u2=.agg #[.bool na,.slice A la.length c]
 p3:d3=false→x2=none
 q3:d3=true→∃ A c,x2=some (A,c)∧u4=.agg #[.bool nb,.slice A lb.length c]
 p4:d4=false→o5=none
 q4:d4=true→∃ g v,u5=.pointer (some ⟨g,0,none⟩)∧o5=some (g,v)∧gb < g∧(d6=false→v=(false,none,0,0))∧(d6=true→∃ A c,x1=some (A,c)∧v=(na,A,la.length,c))
 p5:d5=false→o6=none
 q5:d5=true→∃ g v,u6=.pointer (some ⟨g,0,none⟩)∧o6=some (g,v)∧gb < g∧(d7=false→v=(false,none,0,0))∧(d7=true→∃ A c,x2=some (A,c)∧v=(nb,A,lb.length,c))
 n6:d6=true→d1=true
 n7:d7=true→d3=true
 m6:d6=true→d4=true
 m7:d7=true→d5=true
 pd:∀ g v g' v',o5=some (g,v)→o6=some (g',v')→g'≠g
section
variable {w W v:World} {la lb:List Nat} {na nb:Bool} {VA VB:Value} {ga gb:Nat} {A1 A2:Option Addr} {m1 c1 m2 c2:Nat} {d0 d1 d2 d3 d4 d5 d6 d7:Bool} {u1 u2 u3 u4 u5 u6:Value} {o5 o6:Option (Nat × Bool × Option Addr × Nat × Nat)} {x1 x2:Option (Option Addr × Nat)} {ka kb:Bool}
theorem PI.done (h:PI w (SAB ga ka A1 m1 c1 gb kb A2 m2 c2) la lb na nb VA VB gb d0 d1 d2 d3 true true true true u1 u2 u3 u4 u5 u6 W o5 o6 x1 x2) :
  ∃ g5 g6 A5 c5 A6 c6,u5=.pointer (some ⟨g5,0,none⟩)∧u6=.pointer (some ⟨g6,0,none⟩)∧gb < g5∧gb < g6∧RS w (SAB ga ka A1 m1 c1 gb kb A2 m2 c2) la lb (some (g5,na,A5,la.length,c5)) (some (g6,nb,A6,lb.length,c6)) (some (A5,c5)) (some (A6,c6)) W:=by
 obtain ⟨g5,v5,rfl,rfl,h5,_,k5⟩:=h.q4 rfl;obtain ⟨g6,v6,rfl,rfl,h6,_,k6⟩:=h.q5 rfl;obtain ⟨A5,c5,rfl,rfl⟩:=k5 rfl;obtain ⟨A6,c6,rfl,rfl⟩:=k6 rfl;exact ⟨g5,g6,A5,c5,A6,c6,rfl,rfl,h5,h6,h.rs⟩
end
end Go.Proofs.YtjlmoilceacldaaGreat
namespace Go.Proofs.YtjlmoilceacldaaGreat
open Lib renaming hid → lh
open Go.RowKit
attribute [local go_sem ↓] Go.wp_at_zero Go.wp_at_succ
theorem cell_far {w:World} {g h i j:Nat} (hne:h≠g) (x:Value):(w.setCell ⟨g,j,none⟩ x).cell? ⟨h,i,none⟩=w.cell? ⟨h,i,none⟩:=
 World.cell?_setCell_other _ _ _ _ (by intro e; exact hne (congrArg Addr.block e).symm)
theorem far1 {w:World} {g h j:Nat} {v0 v1 v2 v3:Value} (hne:h≠g) (x:Value) (k:w.cell? ⟨h,0,none⟩=some v0∧w.cell? ⟨h,1,none⟩=some v1∧w.cell? ⟨h,2,none⟩=some v2∧w.cell? ⟨h,3,none⟩=some v3) :
  (w.setCell ⟨g,j,none⟩ x).cell? ⟨h,0,none⟩=some v0∧(w.setCell ⟨g,j,none⟩ x).cell? ⟨h,1,none⟩=some v1∧(w.setCell ⟨g,j,none⟩ x).cell? ⟨h,2,none⟩=some v2∧(w.setCell ⟨g,j,none⟩ x).cell? ⟨h,3,none⟩=some v3:=
 ⟨(cell_far hne x).trans k.1,(cell_far hne x).trans k.2.1,(cell_far hne x).trans k.2.2.1,(cell_far hne x).trans k.2.2.2⟩
end Go.Proofs.YtjlmoilceacldaaGreat
namespace Go.Proofs.YtjlmoilceacldaaGreat
open Lib renaming hid → lh
open Go.RowKit
attribute [local go_sem ↓] Go.wp_at_zero Go.wp_at_succ
end Go.Proofs.YtjlmoilceacldaaGreat
namespace Go.Proofs.YtjlmoilceacldaaGreat
open Lib renaming hid → lh
open Go.RowKit
attribute [local go_sem ↓] Go.wp_at_zero Go.wp_at_succ
def OpIsF (ops:Array Oper) (i:Nat) (d:Option Tmp) (op:Op) (waits:List Nat):Prop:=
 ∃ o,ops[i]? = some o∧o.dst=d∧o.op=op∧o.guard=none∧∀ k∈waits,∃ e∈o.after,e.on=k∧Region.binds .any e=true
theorem OpIsF.take {ops:Array Oper} {i:Nat} {d:Option Tmp} {op:Op} {ws:List Nat} (h:OpIsF ops i d op ws) {l:Array Bool} (hr:i < ops.size∧l.getD i true=false∧∀ o,ops[i]? = some o→∀ e∈o.after,Region.binds .any e=true→l.getD e.on false=true) :
  l.getD i true=false∧(∀ k∈ws,l.getD k false=true)∧∃ ty pos after,ops[i]? = some ⟨d,op,ty,pos,after,none⟩:=by
 obtain ⟨⟨dst,op',ty,pos,after,guard⟩,hi,rfl,rfl,hg,hw⟩:=h;simp only at hg;subst hg;refine ⟨hr.2.1,fun k hk=>?_,ty,pos,after,hi⟩;obtain ⟨e,he,rfl,hb⟩:=hw k hk;exact hr.2.2 _ hi e he hb
structure FV where
 n1:Bool
 A1:Option Addr
 m1:Nat
 c1:Nat
 n2:Bool
 A2:Option Addr
 m2:Nat
 c2:Nat
@[reducible] def FV.val (v:FV):Value:=.agg #[.bool v.n1,.slice v.A1 v.m1 v.c1,.bool v.n2,.slice v.A2 v.m2 v.c2]
def CF (W:World) (g:Nat) (v:FV):Prop:=Cf W g v.n1 v.A1 v.m1 v.c1 v.n2 v.A2 v.m2 v.c2
@[reducible] def zf:FV:=⟨false,none,0,0,false,none,0,0⟩
@[reducible] def putF (W:World) (g:Nat) (v:FV):World:=(((W.setCell ⟨g,0,none⟩ (.bool v.n1)).setCell ⟨g,1,none⟩ (.slice v.A1 v.m1 v.c1)).setCell ⟨g,2,none⟩ (.bool v.n2)).setCell ⟨g,3,none⟩ (.slice v.A2 v.m2 v.c2)
theorem CF.keep {W W':World} {g:Nat} {v:FV} (h:CF W g v) (hb:Below W.heap.size W W'):CF W' g v:=Cf.keep h hb
theorem CF.put {W:World} {g h:Nat} {v u:FV} (k:CF W h u) (hne:h≠g):CF (putF W g v) h u:=
 far1 hne _ (far1 hne _ (far1 hne _ (far1 hne _ k)))
theorem CF.new {W:World} {g:Nat} {v u:FV} (k:CF W g u):CF (putF W g v) g v:=by
 obtain ⟨h0,h1,h2,h3⟩:=k;have ne:∀ i j:Nat,i≠j→(⟨g,i,none⟩:Addr)≠⟨g,j,none⟩:=fun i j hij e=>hij (by injection e);refine ⟨?_,?_,?_,?_⟩
 ·rw [World.cell?_setCell_other _ _ _ _ (ne 3 0 (by decide)),World.cell?_setCell_other _ _ _ _ (ne 2 0 (by decide)),World.cell?_setCell_other _ _ _ _ (ne 1 0 (by decide)),World.cell?_setCell_same _ _ _ h0]
 ·rw [World.cell?_setCell_other _ _ _ _ (ne 3 1 (by decide)),World.cell?_setCell_other _ _ _ _ (ne 2 1 (by decide)),World.cell?_setCell_same _ _ _ ((World.cell?_setCell_other _ _ _ _ (ne 0 1 (by decide))).trans h1)]
 ·rw [World.cell?_setCell_other _ _ _ _ (ne 3 2 (by decide)),World.cell?_setCell_same _ _ _ ((World.cell?_setCell_other _ _ _ _ (ne 1 2 (by decide))).trans ((World.cell?_setCell_other _ _ _ _ (ne 0 2 (by decide))).trans h2))]
 ·exact World.cell?_setCell_same _ _ _ ((World.cell?_setCell_other _ _ _ _ (ne 2 3 (by decide))).trans ((World.cell?_setCell_other _ _ _ _ (ne 1 3 (by decide))).trans ((World.cell?_setCell_other _ _ _ _ (ne 0 3 (by decide))).trans h3)))
structure PF (w:World) (ga gb:Nat) (va vb:FV) (Ta Tb:World→FV→Prop) (d0 d1 d2 d3 d4 d5 d6 d7:Bool) (u1 u2 u3 u4 u5 u6:Value) (W:World) (o5 o6:Option (Nat × FV)) (x1 x2:Option FV):Prop where
 b:Below w.heap.size w W
 ka:CF W ga va
 kb:CF W gb vb
 k5:∀ g v,o5=some (g,v)→CF W g v∧Ff W g
 k6:∀ g v,o6=some (g,v)→CF W g v∧Ff W g
 s1:∀ v,x1=some v→Ta W v
 s2:∀ v,x2=some v→Tb W v
 p0:d0=true→u1=va.val
 p2:d2=true→u3=vb.val
 p1:d1=false→x1=none
 q1:d1=true→∃ v,x1=some v∧u2=v.val
 p3:d3=false→x2=none
 q3:d3=true→∃ v,x2=some v∧u4=v.val
 p4:d4=false→o5=none
 q4:d4=true→∃ g v,u5=.pointer (some ⟨g,0,none⟩)∧o5=some (g,v)∧gb < g∧(d6=false→v=zf)∧(d6=true→x1=some v)
 p5:d5=false→o6=none
 q5:d5=true→∃ g v,u6=.pointer (some ⟨g,0,none⟩)∧o6=some (g,v)∧gb < g∧(d7=false→v=zf)∧(d7=true→x2=some v)
 n6:d6=true→d1=true
 n7:d7=true→d3=true
 m6:d6=true→d4=true
 m7:d7=true→d5=true
 pd:∀ g v g' v',o5=some (g,v)→o6=some (g',v')→g'≠g
section
variable {w W W':World} {ga gb:Nat} {va vb:FV} {Ta Tb:World→FV→Prop} {d0 d1 d2 d3 d4 d5 d6 d7:Bool} {u1 u2 u3 u4 u5 u6:Value} {o5 o6:Option (Nat × FV)} {x1 x2:Option FV}
theorem PF.done (h:PF w ga gb va vb Ta Tb d0 d1 d2 d3 true true true true u1 u2 u3 u4 u5 u6 W o5 o6 x1 x2) :
  ∃ g5 g6 v5 v6,u5=.pointer (some ⟨g5,0,none⟩)∧u6=.pointer (some ⟨g6,0,none⟩)∧gb < g5∧gb < g6∧CF W g5 v5∧CF W g6 v6∧Ta W v5∧Tb W v6:=by
 obtain ⟨g5,v5,rfl,rfl,h5,_,k5⟩:=h.q4 rfl;obtain ⟨g6,v6,rfl,rfl,h6,_,k6⟩:=h.q5 rfl;exact ⟨g5,g6,v5,v6,rfl,rfl,h5,h6,(h.k5 _ _ rfl).1,(h.k6 _ _ rfl).1,h.s1 _ (k5 rfl),h.s2 _ (k6 rfl)⟩
end
section
variable {K:Act→World→Prop} {Q:Exit→Act→World→Prop} {a:Act} {W:World} {d:Option Tmp} {ty:TypeId} {pos:String} {after:Array Edge} {s s' g:Nat} {v:FV}
end
end Go.Proofs.YtjlmoilceacldaaGreat
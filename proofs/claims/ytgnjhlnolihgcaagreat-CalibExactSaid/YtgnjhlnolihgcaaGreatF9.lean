import Derived.Test.YtgnjhlnolihgcaaGreatF6
set_option maxHeartbeats 2000000
set_option maxRecDepth 100000
namespace Go.Proofs.YtgnjhlnolihgcaaGreat
open Lib renaming hid → lh
open Go.RowKit
attribute [local go_sem ↓] Go.wp_at_zero Go.wp_at_succ
theorem div1_zero (n1 n2 n3 n4:Bool) (A1 A2 A3 A4:Option Addr) (l1 l2 l3 l4:List Nat) (c1 c2 c3 c4:Nat) (x2:Int) (h3:VZ n3 l3 x2) (hz:x2=0) (w:World) (hs1:Sl w A1 l1 c1) (hs2:Sl w A2 l2 c2) (hs3:Sl w A3 l3 c3) (hs4:Sl w A4 l4 c4) :
  Calls Tryz.prog 119 #[.agg #[.bool n1,.slice A1 l1.length c1,.bool n2,.slice A2 l2.length c2],.agg #[.bool n3,.slice A3 l3.length c3,.bool n4,.slice A4 l4.length c4]] w (Falls 18 w):=by
 have Hz:Hid (((l3.length:Int) == 0)=true):=(by rw [Hid,beq_iff_eq]; have:=h3.zero.2 hz; omega);have S1:=lh hs1;have S2:=lh hs2;have S3:=lh hs3;have S4:=lh hs4;have B:Hid (Below w.heap.size w w):=Below.refl _ _;clear hs1 hs2 hs3 hs4 h3 hz;go_enter Tryz.func119,Tryz.ntmps119
 go_wp2_with fail
 refine (q1p n3 A3 l3 c3 _).mono ?_;rw [Hz.out];rintro e w1 ⟨rfl,hb⟩;replace S1:=kS4 S1 hb;replace S2:=kS4 S2 hb;replace S3:=kS4 S3 hb;replace S4:=kS4 S4 hb;have Fr:Hid (Fw w1 (w.heap.size+1+1)):=Fw.keep (Fw.keep (Fw.fresh (by simp) _ _) (Cw.fresh (by simp) _ _ _ _ _) (blw1 _ _)) (Cw.keep (Cw.fresh (by simp) _ _ _ _ _) (blw1 _ _)) hb;have Fu:Hid (Fw w1 (w.heap.size+1+1+1)):=Fw.keep (Fw.fresh (by simp) _ _) (Cw.fresh (by simp) _ _ _ _ _) hb;have Ka:Hid (Cf w1 w.heap.size n1 A1 l1.length c1 n2 A2 l2.length c2):=Cf.keep (Cf.keep (Cf.keep (Cf.keep (Cf.fresh (by simp) _ _ _ _ _ _ _ _ _) (blw1 _ _)) (blw1 _ _)) (blw1 _ _)) hb;have Kb:Hid (Cf w1 (w.heap.size+1) n3 A3 l3.length c3 n4 A4 l4.length c4):=Cf.keep (Cf.keep (Cf.keep (Cf.fresh (by simp) _ _ _ _ _ _ _ _ _) (blw1 _ _)) (blw1 _ _)) hb;have Kr:Hid (Cw w1 (w.heap.size+1+1) false none 0 0):=Cw.keep (Cw.keep (Cw.fresh (by simp) _ _ _ _ _) (blw1 _ _)) hb;have Ku:Hid (Cw w1 (w.heap.size+1+1+1) false none 0 0):=Cw.keep (Cw.fresh (by simp) _ _ _ _ _) hb;replace B:=kB4 B hb;clear hb;obtain ⟨qa0,qa1,qa2,qa3⟩:=Ka.out;obtain ⟨qb0,qb1,qb2,qb3⟩:=Kb.out;have hza:=lF Ka;have hzb:=lF Kb;have hzr:=lW Kr;have hzu:=lW Ku;go_wp2_with fail
 refine (want_bad 18 (by decide) _).mono ?_;rintro e w2 ⟨rfl,hb⟩;clear qa0 qa1 qa2 qa3 qb0 qb1 qb2 qb3;replace S1:=kS S1 hb;replace S2:=kS S2 hb;replace S3:=kS S3 hb;replace S4:=kS S4 hb;replace Fr:=kFw Fr Kr hb;replace Fu:=kFw Fu Ku hb;replace Ka:=kF Ka hb;replace Kb:=kF Kb hb;replace Kr:=kW Kr hb;replace Ku:=kW Ku hb;replace B:=kB B hb;clear hb;go_wp2_with fail
 exact ⟨rfl,rfl,B.out⟩
theorem sub_both (n1 n2 n3 n4:Bool) (A1 A2 A3 A4:Option Addr) (l1 l2 l3 l4:List Nat) (c1 c2 c3 c4:Nat) (w:World) (hs1:Sl w A1 l1 c1) (hs2:Sl w A2 l2 c2) (hs3:Sl w A3 l3 c3) (hs4:Sl w A4 l4 c4) :
  Calls Tryz.prog 67 #[.agg #[.bool n1,.slice A1 l1.length c1,.bool n2,.slice A2 l2.length c2],.agg #[.bool n3,.slice A3 l3.length c3,.bool n4,.slice A4 l4.length c4],.func (.func 68) #[] #[]] w (FRes (q0m n1 l1 n2 l2 n3 l3 n4 l4 subV) w):=by
 have hF:∀ (args:Array Value) (W:World),(callFunc 68 args).run Tryz.prog W=.ok (.enter 68 args) W:=fun _ _=>rfl
 cases hb1:badF n1 l1 n2 l2 with
 | true=>
  have hr:q0m n1 l1 n2 l2 n3 l3 n4 l4 subV=(zF,8):=(by unfold q0m; rw [hb1]; rfl);rw [hr];exact both_bad1 n1 n2 n3 n4 A1 A2 A3 A4 l1 l2 l3 l4 c1 c2 c3 c4 68 (by unfold chkF; rw [hb1]; rfl) w hs1 hs2 hs3 hs4
 | false=>
  have k1:chkF n1 l1 n2 l2=0:=by unfold chkF; rw [hb1]; rfl
  cases hb2:badF n3 l3 n4 l4 with
  | true=>
   have hr:q0m n1 l1 n2 l2 n3 l3 n4 l4 subV=(zF,8):=(by unfold q0m; rw [hb1,hb2]; rfl);rw [hr];exact both_bad2 n1 n2 n3 n4 A1 A2 A3 A4 l1 l2 l3 l4 c1 c2 c3 c4 68 k1 (by unfold chkF; rw [hb2]; rfl) w hs1 hs2 hs3 hs4
  | false=>
   have k2:chkF n3 l3 n4 l4=0:=(by unfold chkF; rw [hb2]; rfl);have va:=vf_of hs1.lim hs2.lim hb1;have vb:=vf_of hs3.lim hs4.lim hb2;rw [q1i va vb];obtain ⟨h1,h2,hp1,_⟩:=va;obtain ⟨h3,h4,hp2,_⟩:=vb;generalize zv n1 l1=x1 at *;generalize zv n2 l2=y1 at *;generalize zv n3 l3=x2 at *;generalize zv n4 l4=y2 at *;unfold subV;unfold outF
   cases f0:fitB (x1 * y2) with
   | false=>
    rw [if_neg (by simp)];exact q1u n1 n2 n3 n4 A1 A2 A3 A4 l1 l2 l3 l4 c1 c2 c3 c4 68 hF k1 k2 16 (fun W a b c d=>sub1_bad0 n1 n2 n3 n4 A1 A2 A3 A4 l1 l2 l3 l4 c1 c2 c3 c4 x1 y2 h1 h4  (fun e=>by rw [q0c.2 e] at f0; cases f0) W a b c d) w hs1 hs2 hs3 hs4
   | true=>
    cases f1:fitB (x2 * y1) with
    | false=>
     rw [if_neg (by simp)];exact q1u n1 n2 n3 n4 A1 A2 A3 A4 l1 l2 l3 l4 c1 c2 c3 c4 68 hF k1 k2 16 (fun W a b c d=>sub1_bad1 n1 n2 n3 n4 A1 A2 A3 A4 l1 l2 l3 l4 c1 c2 c3 c4 x1 y1 x2 y2 h1 h2 h3 h4 (q0c.1 f0) (fun e=>by rw [q0c.2 e] at f1; cases f1) W a b c d) w hs1 hs2 hs3 hs4
    | true=>
     cases f2:fitB (x1 * y2 - x2 * y1) with
     | false=>
      rw [if_neg (by simp)];exact q1u n1 n2 n3 n4 A1 A2 A3 A4 l1 l2 l3 l4 c1 c2 c3 c4 68 hF k1 k2 16 (fun W a b c d=>sub1_bad2 n1 n2 n3 n4 A1 A2 A3 A4 l1 l2 l3 l4 c1 c2 c3 c4 x1 y1 x2 y2 h1 h2 h3 h4 (q0c.1 f0) (q0c.1 f1) (fun e=>by rw [q0c.2 e] at f2; cases f2) W a b c d) w hs1 hs2 hs3 hs4
     | true=>
      cases f3:fitB (y1 * y2) with
      | false=>
       rw [if_neg (by simp)];exact q1u n1 n2 n3 n4 A1 A2 A3 A4 l1 l2 l3 l4 c1 c2 c3 c4 68 hF k1 k2 16 (fun W a b c d=>sub1_bad4 n1 n2 n3 n4 A1 A2 A3 A4 l1 l2 l3 l4 c1 c2 c3 c4 x1 y1 x2 y2 h1 h2 h3 h4 (q0c.1 f0) (q0c.1 f1) (q0c.1 f2) (fun e=>by rw [q0c.2 e] at f3; cases f3) W a b c d) w hs1 hs2 hs3 hs4
      | true=>
       rw [if_pos (by simp)];exact both_ok n1 n2 n3 n4 A1 A2 A3 A4 l1 l2 l3 l4 c1 c2 c3 c4 68 hF k1 k2 _ _ _ _ _ _ (q1l (q0c.1 f2)) (q1l (q0c.1 f3)) (Int.mul_ne_zero (by omega) (by omega)) (fun W a b c d=>sub1_ok n1 n2 n3 n4 A1 A2 A3 A4 l1 l2 l3 l4 c1 c2 c3 c4 x1 y1 x2 y2 h1 h2 h3 h4 (q0c.1 f0) (q0c.1 f1) (q0c.1 f2) (q0c.1 f3) W a b c d) w hs1 hs2 hs3 hs4
theorem fsub_of (n1 n2 n3 n4:Bool) (A1 A2 A3 A4:Option Addr) (l1 l2 l3 l4:List Nat) (c1 c2 c3 c4:Nat) (hB:∀ W,Sl W A1 l1 c1→Sl W A2 l2 c2→Sl W A3 l3 c3→Sl W A4 l4 c4→Calls Tryz.prog 67 #[.agg #[.bool n1,.slice A1 l1.length c1,.bool n2,.slice A2 l2.length c2],.agg #[.bool n3,.slice A3 l3.length c3,.bool n4,.slice A4 l4.length c4],.func (.func 68) #[] #[]] W (FRes (q0m n1 l1 n2 l2 n3 l3 n4 l4 subV) W)) (w:World) (hs1:Sl w A1 l1 c1) (hs2:Sl w A2 l2 c2) (hs3:Sl w A3 l3 c3) (hs4:Sl w A4 l4 c4) :
  Calls Tryz.prog 33 #[.agg #[.bool n1,.slice A1 l1.length c1,.bool n2,.slice A2 l2.length c2],.agg #[.bool n3,.slice A3 l3.length c3,.bool n4,.slice A4 l4.length c4]] w (FRes (q0m n1 l1 n2 l2 n3 l3 n4 l4 subV) w):=by
 have S1:=lh hs1;have S2:=lh hs2;have S3:=lh hs3;have S4:=lh hs4;have B:Hid (Below w.heap.size w w):=Below.refl _ _;obtain ⟨⟨⟨⟨np,lp⟩,⟨nq,lq⟩⟩,k⟩,hr⟩:∃ r,r=q0m n1 l1 n2 l2 n3 l3 n4 l4 subV:=⟨_,rfl⟩;have HB:Hid (∀ W,Sl W A1 l1 c1→Sl W A2 l2 c2→Sl W A3 l3 c3→Sl W A4 l4 c4→Calls Tryz.prog 67 #[.agg #[.bool n1,.slice A1 l1.length c1,.bool n2,.slice A2 l2.length c2],.agg #[.bool n3,.slice A3 l3.length c3,.bool n4,.slice A4 l4.length c4],.func (.func 68) #[] #[]] W (FRes (((np,lp),(nq,lq)),k) W)):=fun W a b c d=>by rw [hr]; exact hB W a b c d
 rw [← hr];clear hr hB hs1 hs2 hs3 hs4;go_enter Tryz.func33,Tryz.ntmps33
 go_wp2_with fail
 refine (HB.out _ (((S1.out.alloc _).alloc _).alloc _) (((S2.out.alloc _).alloc _).alloc _) (((S3.out.alloc _).alloc _).alloc _) (((S4.out.alloc _).alloc _).alloc _)).mono ?_;rintro e w1 ⟨A5,c5,A6,c6,rfl,hsp,hsq,hb⟩;replace S1:=kS3 S1 hb;replace S2:=kS3 S2 hb;replace S3:=kS3 S3 hb;replace S4:=kS3 S4 hb;have Fo:Hid (Ff w1 (w.heap.size+1+1)):=Ff.keep (Ff.fresh (by simp) _ _) (Cf.fresh (by simp) _ _ _ _ _ _ _ _ _) hb;have Ka:Hid (Cf w1 w.heap.size n1 A1 l1.length c1 n2 A2 l2.length c2):=Cf.keep (Cf.keep (Cf.keep (Cf.fresh (by simp) _ _ _ _ _ _ _ _ _) (blw1 _ _)) (blw1 _ _)) hb;have Kb:Hid (Cf w1 (w.heap.size+1) n3 A3 l3.length c3 n4 A4 l4.length c4):=Cf.keep (Cf.keep (Cf.fresh (by simp) _ _ _ _ _ _ _ _ _) (blw1 _ _)) hb;have Ko:Hid (Cf w1 (w.heap.size+1+1) false none 0 0 false none 0 0):=Cf.keep (Cf.fresh (by simp) _ _ _ _ _ _ _ _ _) hb;replace B:=kB3 B hb;clear hb;(try dsimp only at hsp hsq);(try dsimp only);have Sp:Hid (Sl w1 A5 lp c5):=hsp;clear hsp;have Sq:Hid (Sl w1 A6 lq c6):=hsq;clear hsq;obtain ⟨qo0,qo1,qo2,qo3⟩:=Ko.out;obtain ⟨fo0,fo1,fo2,fo3⟩:=Fo.out;have hza:=lF Ka;have hzb:=lF Kb;have hzo:=lF Ko;go_wp2_with fail
 exact bodyPost_ret (v:=.tuple #[.agg #[.bool np,.slice A5 lp.length c5,.bool nq,.slice A6 lq.length c6],.int .i64 k]) (by simp [results,Tryz.results33,go_sem,qo0,qo1,qo2,qo3]) rfl (fres_store4 (r:=((np,lp),(nq,lq))) k Sp.out Sq.out Ko.out B.out (by omega) _ _ _ _)
theorem fsub_any (n1 n2 n3 n4:Bool) (A1 A2 A3 A4:Option Addr) (l1 l2 l3 l4:List Nat) (c1 c2 c3 c4:Nat) (w:World) (hs1:Sl w A1 l1 c1) (hs2:Sl w A2 l2 c2) (hs3:Sl w A3 l3 c3) (hs4:Sl w A4 l4 c4) :
  Calls Tryz.prog 33 #[.agg #[.bool n1,.slice A1 l1.length c1,.bool n2,.slice A2 l2.length c2],.agg #[.bool n3,.slice A3 l3.length c3,.bool n4,.slice A4 l4.length c4]] w (FRes (q0m n1 l1 n2 l2 n3 l3 n4 l4 subV) w):=
 fsub_of n1 n2 n3 n4 A1 A2 A3 A4 l1 l2 l3 l4 c1 c2 c3 c4 (fun W a b c d=>sub_both n1 n2 n3 n4 A1 A2 A3 A4 l1 l2 l3 l4 c1 c2 c3 c4 W a b c d) w hs1 hs2 hs3 hs4
theorem mul_both (n1 n2 n3 n4:Bool) (A1 A2 A3 A4:Option Addr) (l1 l2 l3 l4:List Nat) (c1 c2 c3 c4:Nat) (w:World) (hs1:Sl w A1 l1 c1) (hs2:Sl w A2 l2 c2) (hs3:Sl w A3 l3 c3) (hs4:Sl w A4 l4 c4) :
  Calls Tryz.prog 67 #[.agg #[.bool n1,.slice A1 l1.length c1,.bool n2,.slice A2 l2.length c2],.agg #[.bool n3,.slice A3 l3.length c3,.bool n4,.slice A4 l4.length c4],.func (.func 118) #[] #[]] w (FRes (q0m n1 l1 n2 l2 n3 l3 n4 l4 mulV) w):=by
 have hF:∀ (args:Array Value) (W:World),(callFunc 118 args).run Tryz.prog W=.ok (.enter 118 args) W:=fun _ _=>rfl
 cases hb1:badF n1 l1 n2 l2 with
 | true=>
  have hr:q0m n1 l1 n2 l2 n3 l3 n4 l4 mulV=(zF,8):=(by unfold q0m; rw [hb1]; rfl);rw [hr];exact both_bad1 n1 n2 n3 n4 A1 A2 A3 A4 l1 l2 l3 l4 c1 c2 c3 c4 118 (by unfold chkF; rw [hb1]; rfl) w hs1 hs2 hs3 hs4
 | false=>
  have k1:chkF n1 l1 n2 l2=0:=by unfold chkF; rw [hb1]; rfl
  cases hb2:badF n3 l3 n4 l4 with
  | true=>
   have hr:q0m n1 l1 n2 l2 n3 l3 n4 l4 mulV=(zF,8):=(by unfold q0m; rw [hb1,hb2]; rfl);rw [hr];exact both_bad2 n1 n2 n3 n4 A1 A2 A3 A4 l1 l2 l3 l4 c1 c2 c3 c4 118 k1 (by unfold chkF; rw [hb2]; rfl) w hs1 hs2 hs3 hs4
  | false=>
   have k2:chkF n3 l3 n4 l4=0:=(by unfold chkF; rw [hb2]; rfl);have va:=vf_of hs1.lim hs2.lim hb1;have vb:=vf_of hs3.lim hs4.lim hb2;rw [q1i va vb];obtain ⟨h1,h2,hp1,_⟩:=va;obtain ⟨h3,h4,hp2,_⟩:=vb;generalize zv n1 l1=x1 at *;generalize zv n2 l2=y1 at *;generalize zv n3 l3=x2 at *;generalize zv n4 l4=y2 at *;unfold mulV;unfold outF
   cases f0:fitB (x1 * x2) with
   | false=>
    rw [if_neg (by simp)];exact q1u n1 n2 n3 n4 A1 A2 A3 A4 l1 l2 l3 l4 c1 c2 c3 c4 118 hF k1 k2 16 (fun W a b c d=>mul1_bad0 n1 n2 n3 n4 A1 A2 A3 A4 l1 l2 l3 l4 c1 c2 c3 c4 x1 x2 h1 h3  (fun e=>by rw [q0c.2 e] at f0; cases f0) W a b c d) w hs1 hs2 hs3 hs4
   | true=>
    cases f1:fitB (y1 * y2) with
    | false=>
     rw [if_neg (by simp)];exact q1u n1 n2 n3 n4 A1 A2 A3 A4 l1 l2 l3 l4 c1 c2 c3 c4 118 hF k1 k2 16 (fun W a b c d=>mul1_bad2 n1 n2 n3 n4 A1 A2 A3 A4 l1 l2 l3 l4 c1 c2 c3 c4 x1 y1 x2 y2 h1 h2 h3 h4 (q0c.1 f0) (fun e=>by rw [q0c.2 e] at f1; cases f1) W a b c d) w hs1 hs2 hs3 hs4
    | true=>
     rw [if_pos (by simp)];exact both_ok n1 n2 n3 n4 A1 A2 A3 A4 l1 l2 l3 l4 c1 c2 c3 c4 118 hF k1 k2 _ _ _ _ _ _ (q1l (q0c.1 f0)) (q1l (q0c.1 f1)) (Int.mul_ne_zero (by omega) (by omega)) (fun W a b c d=>mul1_ok n1 n2 n3 n4 A1 A2 A3 A4 l1 l2 l3 l4 c1 c2 c3 c4 x1 y1 x2 y2 h1 h2 h3 h4 (q0c.1 f0) (q0c.1 f1) W a b c d) w hs1 hs2 hs3 hs4
theorem mul_bothG (n1 n2 n3 n4:Bool) (A1 A2 A3 A4:Option Addr) (l1 l2 l3 l4:List Nat) (c1 c2 c3 c4:Nat) (hg:(q0m n1 l1 n2 l2 n3 l3 n4 l4 mulV).2=0) (w:World) (hs1:Sl w A1 l1 c1) (hs2:Sl w A2 l2 c2) (hs3:Sl w A3 l3 c3) (hs4:Sl w A4 l4 c4) :
  Calls Tryz.prog 67 #[.agg #[.bool n1,.slice A1 l1.length c1,.bool n2,.slice A2 l2.length c2],.agg #[.bool n3,.slice A3 l3.length c3,.bool n4,.slice A4 l4.length c4],.func (.func 118) #[] #[]] w (FRes (q0m n1 l1 n2 l2 n3 l3 n4 l4 mulV) w):=by
 have hF:∀ (args:Array Value) (W:World),(callFunc 118 args).run Tryz.prog W=.ok (.enter 118 args) W:=fun _ _=>rfl
 cases hb1:badF n1 l1 n2 l2 with
 | true=>
  have hr:q0m n1 l1 n2 l2 n3 l3 n4 l4 mulV=(zF,8):=(by unfold q0m; rw [hb1]; rfl);rw [hr];rw [hr] at hg; exact absurd hg (by decide)
 | false=>
  have k1:chkF n1 l1 n2 l2=0:=by unfold chkF; rw [hb1]; rfl
  cases hb2:badF n3 l3 n4 l4 with
  | true=>
   have hr:q0m n1 l1 n2 l2 n3 l3 n4 l4 mulV=(zF,8):=(by unfold q0m; rw [hb1,hb2]; rfl);rw [hr];rw [hr] at hg; exact absurd hg (by decide)
  | false=>
   have k2:chkF n3 l3 n4 l4=0:=(by unfold chkF; rw [hb2]; rfl);have va:=vf_of hs1.lim hs2.lim hb1;have vb:=vf_of hs3.lim hs4.lim hb2;rw [q1i va vb] at hg ⊢;obtain ⟨h1,h2,hp1,_⟩:=va;obtain ⟨h3,h4,hp2,_⟩:=vb;generalize zv n1 l1=x1 at *;generalize zv n2 l2=y1 at *;generalize zv n3 l3=x2 at *;generalize zv n4 l4=y2 at *;unfold mulV at hg ⊢;unfold outF at hg ⊢
   cases f0:fitB (x1 * x2) with
   | false=>
    rw [if_neg (by simp)];rw [f0,if_neg (by simp)] at hg; exact absurd hg (by decide)
   | true=>
    cases f1:fitB (y1 * y2) with
    | false=>
     rw [if_neg (by simp)];rw [f1,if_neg (by simp)] at hg; exact absurd hg (by decide)
    | true=>
     rw [if_pos (by simp)];exact both_ok n1 n2 n3 n4 A1 A2 A3 A4 l1 l2 l3 l4 c1 c2 c3 c4 118 hF k1 k2 _ _ _ _ _ _ (q1l (q0c.1 f0)) (q1l (q0c.1 f1)) (Int.mul_ne_zero (by omega) (by omega)) (fun W a b c d=>mul1_ok n1 n2 n3 n4 A1 A2 A3 A4 l1 l2 l3 l4 c1 c2 c3 c4 x1 y1 x2 y2 h1 h2 h3 h4 (q0c.1 f0) (q0c.1 f1) W a b c d) w hs1 hs2 hs3 hs4
theorem fmul_of (n1 n2 n3 n4:Bool) (A1 A2 A3 A4:Option Addr) (l1 l2 l3 l4:List Nat) (c1 c2 c3 c4:Nat) (hB:∀ W,Sl W A1 l1 c1→Sl W A2 l2 c2→Sl W A3 l3 c3→Sl W A4 l4 c4→Calls Tryz.prog 67 #[.agg #[.bool n1,.slice A1 l1.length c1,.bool n2,.slice A2 l2.length c2],.agg #[.bool n3,.slice A3 l3.length c3,.bool n4,.slice A4 l4.length c4],.func (.func 118) #[] #[]] W (FRes (q0m n1 l1 n2 l2 n3 l3 n4 l4 mulV) W)) (w:World) (hs1:Sl w A1 l1 c1) (hs2:Sl w A2 l2 c2) (hs3:Sl w A3 l3 c3) (hs4:Sl w A4 l4 c4) :
  Calls Tryz.prog 65 #[.agg #[.bool n1,.slice A1 l1.length c1,.bool n2,.slice A2 l2.length c2],.agg #[.bool n3,.slice A3 l3.length c3,.bool n4,.slice A4 l4.length c4]] w (FRes (q0m n1 l1 n2 l2 n3 l3 n4 l4 mulV) w):=by
 have S1:=lh hs1;have S2:=lh hs2;have S3:=lh hs3;have S4:=lh hs4;have B:Hid (Below w.heap.size w w):=Below.refl _ _;obtain ⟨⟨⟨⟨np,lp⟩,⟨nq,lq⟩⟩,k⟩,hr⟩:∃ r,r=q0m n1 l1 n2 l2 n3 l3 n4 l4 mulV:=⟨_,rfl⟩;have HB:Hid (∀ W,Sl W A1 l1 c1→Sl W A2 l2 c2→Sl W A3 l3 c3→Sl W A4 l4 c4→Calls Tryz.prog 67 #[.agg #[.bool n1,.slice A1 l1.length c1,.bool n2,.slice A2 l2.length c2],.agg #[.bool n3,.slice A3 l3.length c3,.bool n4,.slice A4 l4.length c4],.func (.func 118) #[] #[]] W (FRes (((np,lp),(nq,lq)),k) W)):=fun W a b c d=>by rw [hr]; exact hB W a b c d
 rw [← hr];clear hr hB hs1 hs2 hs3 hs4;go_enter Tryz.func65,Tryz.ntmps65
 go_wp2_with fail
 refine (HB.out _ (((S1.out.alloc _).alloc _).alloc _) (((S2.out.alloc _).alloc _).alloc _) (((S3.out.alloc _).alloc _).alloc _) (((S4.out.alloc _).alloc _).alloc _)).mono ?_;rintro e w1 ⟨A5,c5,A6,c6,rfl,hsp,hsq,hb⟩;replace S1:=kS3 S1 hb;replace S2:=kS3 S2 hb;replace S3:=kS3 S3 hb;replace S4:=kS3 S4 hb;have Fo:Hid (Ff w1 (w.heap.size+1+1)):=Ff.keep (Ff.fresh (by simp) _ _) (Cf.fresh (by simp) _ _ _ _ _ _ _ _ _) hb;have Ka:Hid (Cf w1 w.heap.size n1 A1 l1.length c1 n2 A2 l2.length c2):=Cf.keep (Cf.keep (Cf.keep (Cf.fresh (by simp) _ _ _ _ _ _ _ _ _) (blw1 _ _)) (blw1 _ _)) hb;have Kb:Hid (Cf w1 (w.heap.size+1) n3 A3 l3.length c3 n4 A4 l4.length c4):=Cf.keep (Cf.keep (Cf.fresh (by simp) _ _ _ _ _ _ _ _ _) (blw1 _ _)) hb;have Ko:Hid (Cf w1 (w.heap.size+1+1) false none 0 0 false none 0 0):=Cf.keep (Cf.fresh (by simp) _ _ _ _ _ _ _ _ _) hb;replace B:=kB3 B hb;clear hb;(try dsimp only at hsp hsq);(try dsimp only);have Sp:Hid (Sl w1 A5 lp c5):=hsp;clear hsp;have Sq:Hid (Sl w1 A6 lq c6):=hsq;clear hsq;obtain ⟨qo0,qo1,qo2,qo3⟩:=Ko.out;obtain ⟨fo0,fo1,fo2,fo3⟩:=Fo.out;have hza:=lF Ka;have hzb:=lF Kb;have hzo:=lF Ko;go_wp2_with fail
 exact bodyPost_ret (v:=.tuple #[.agg #[.bool np,.slice A5 lp.length c5,.bool nq,.slice A6 lq.length c6],.int .i64 k]) (by simp [results,Tryz.results65,go_sem,qo0,qo1,qo2,qo3]) rfl (fres_store4 (r:=((np,lp),(nq,lq))) k Sp.out Sq.out Ko.out B.out (by omega) _ _ _ _)
theorem fmul_any (n1 n2 n3 n4:Bool) (A1 A2 A3 A4:Option Addr) (l1 l2 l3 l4:List Nat) (c1 c2 c3 c4:Nat) (w:World) (hs1:Sl w A1 l1 c1) (hs2:Sl w A2 l2 c2) (hs3:Sl w A3 l3 c3) (hs4:Sl w A4 l4 c4) :
  Calls Tryz.prog 65 #[.agg #[.bool n1,.slice A1 l1.length c1,.bool n2,.slice A2 l2.length c2],.agg #[.bool n3,.slice A3 l3.length c3,.bool n4,.slice A4 l4.length c4]] w (FRes (q0m n1 l1 n2 l2 n3 l3 n4 l4 mulV) w):=
 fmul_of n1 n2 n3 n4 A1 A2 A3 A4 l1 l2 l3 l4 c1 c2 c3 c4 (fun W a b c d=>mul_both n1 n2 n3 n4 A1 A2 A3 A4 l1 l2 l3 l4 c1 c2 c3 c4 W a b c d) w hs1 hs2 hs3 hs4
theorem fmul_good (n1 n2 n3 n4:Bool) (A1 A2 A3 A4:Option Addr) (l1 l2 l3 l4:List Nat) (c1 c2 c3 c4:Nat) (hg:(q0m n1 l1 n2 l2 n3 l3 n4 l4 mulV).2=0) (w:World) (hs1:Sl w A1 l1 c1) (hs2:Sl w A2 l2 c2) (hs3:Sl w A3 l3 c3) (hs4:Sl w A4 l4 c4) :
  Calls Tryz.prog 65 #[.agg #[.bool n1,.slice A1 l1.length c1,.bool n2,.slice A2 l2.length c2],.agg #[.bool n3,.slice A3 l3.length c3,.bool n4,.slice A4 l4.length c4]] w (FRes (q0m n1 l1 n2 l2 n3 l3 n4 l4 mulV) w):=
 fmul_of n1 n2 n3 n4 A1 A2 A3 A4 l1 l2 l3 l4 c1 c2 c3 c4 (fun W a b c d=>mul_bothG n1 n2 n3 n4 A1 A2 A3 A4 l1 l2 l3 l4 c1 c2 c3 c4 hg W a b c d) w hs1 hs2 hs3 hs4
theorem div_both (n1 n2 n3 n4:Bool) (A1 A2 A3 A4:Option Addr) (l1 l2 l3 l4:List Nat) (c1 c2 c3 c4:Nat) (w:World) (hs1:Sl w A1 l1 c1) (hs2:Sl w A2 l2 c2) (hs3:Sl w A3 l3 c3) (hs4:Sl w A4 l4 c4) :
  Calls Tryz.prog 67 #[.agg #[.bool n1,.slice A1 l1.length c1,.bool n2,.slice A2 l2.length c2],.agg #[.bool n3,.slice A3 l3.length c3,.bool n4,.slice A4 l4.length c4],.func (.func 119) #[] #[]] w (FRes (q0m n1 l1 n2 l2 n3 l3 n4 l4 divV) w):=by
 have hF:∀ (args:Array Value) (W:World),(callFunc 119 args).run Tryz.prog W=.ok (.enter 119 args) W:=fun _ _=>rfl
 cases hb1:badF n1 l1 n2 l2 with
 | true=>
  have hr:q0m n1 l1 n2 l2 n3 l3 n4 l4 divV=(zF,8):=(by unfold q0m; rw [hb1]; rfl);rw [hr];exact both_bad1 n1 n2 n3 n4 A1 A2 A3 A4 l1 l2 l3 l4 c1 c2 c3 c4 119 (by unfold chkF; rw [hb1]; rfl) w hs1 hs2 hs3 hs4
 | false=>
  have k1:chkF n1 l1 n2 l2=0:=by unfold chkF; rw [hb1]; rfl
  cases hb2:badF n3 l3 n4 l4 with
  | true=>
   have hr:q0m n1 l1 n2 l2 n3 l3 n4 l4 divV=(zF,8):=(by unfold q0m; rw [hb1,hb2]; rfl);rw [hr];exact both_bad2 n1 n2 n3 n4 A1 A2 A3 A4 l1 l2 l3 l4 c1 c2 c3 c4 119 k1 (by unfold chkF; rw [hb2]; rfl) w hs1 hs2 hs3 hs4
  | false=>
   have k2:chkF n3 l3 n4 l4=0:=(by unfold chkF; rw [hb2]; rfl);have va:=vf_of hs1.lim hs2.lim hb1;have vb:=vf_of hs3.lim hs4.lim hb2;rw [q1i va vb];obtain ⟨h1,h2,hp1,_⟩:=va;obtain ⟨h3,h4,hp2,_⟩:=vb;generalize zv n1 l1=x1 at *;generalize zv n2 l2=y1 at *;generalize zv n3 l3=x2 at *;generalize zv n4 l4=y2 at *;unfold divV;by_cases hz:x2=0
   ·rw [if_pos hz];exact q1u n1 n2 n3 n4 A1 A2 A3 A4 l1 l2 l3 l4 c1 c2 c3 c4 119 hF k1 k2 18 (fun W a b c d=>div1_zero n1 n2 n3 n4 A1 A2 A3 A4 l1 l2 l3 l4 c1 c2 c3 c4 x2 h3 hz W a b c d) w hs1 hs2 hs3 hs4
   ·rw [if_neg hz];unfold outF
    cases f0:fitB (x1 * y2) with
    | false=>
     rw [if_neg (by simp)];exact q1u n1 n2 n3 n4 A1 A2 A3 A4 l1 l2 l3 l4 c1 c2 c3 c4 119 hF k1 k2 16 (fun W a b c d=>div1_bad0 n1 n2 n3 n4 A1 A2 A3 A4 l1 l2 l3 l4 c1 c2 c3 c4 x1 x2 y2 h1 h3 h4 hz  (fun e=>by rw [q0c.2 e] at f0; cases f0) W a b c d) w hs1 hs2 hs3 hs4
    | true=>
     cases f1:fitB (y1 * x2) with
     | false=>
      rw [if_neg (by simp)];exact q1u n1 n2 n3 n4 A1 A2 A3 A4 l1 l2 l3 l4 c1 c2 c3 c4 119 hF k1 k2 16 (fun W a b c d=>div1_bad1 n1 n2 n3 n4 A1 A2 A3 A4 l1 l2 l3 l4 c1 c2 c3 c4 x1 y1 x2 y2 h1 h2 h3 h4 hz (q0c.1 f0) (fun e=>by rw [q0c.2 e] at f1; cases f1) W a b c d) w hs1 hs2 hs3 hs4
     | true=>
      rw [if_pos (by simp)];exact both_ok n1 n2 n3 n4 A1 A2 A3 A4 l1 l2 l3 l4 c1 c2 c3 c4 119 hF k1 k2 _ _ _ _ _ _ (q1l (q0c.1 f0)) (q1l (q0c.1 f1)) (Int.mul_ne_zero (by omega) (by omega)) (fun W a b c d=>div1_ok n1 n2 n3 n4 A1 A2 A3 A4 l1 l2 l3 l4 c1 c2 c3 c4 x1 y1 x2 y2 h1 h2 h3 h4 hz (q0c.1 f0) (q0c.1 f1) W a b c d) w hs1 hs2 hs3 hs4
theorem fdiv_of (n1 n2 n3 n4:Bool) (A1 A2 A3 A4:Option Addr) (l1 l2 l3 l4:List Nat) (c1 c2 c3 c4:Nat) (hB:∀ W,Sl W A1 l1 c1→Sl W A2 l2 c2→Sl W A3 l3 c3→Sl W A4 l4 c4→Calls Tryz.prog 67 #[.agg #[.bool n1,.slice A1 l1.length c1,.bool n2,.slice A2 l2.length c2],.agg #[.bool n3,.slice A3 l3.length c3,.bool n4,.slice A4 l4.length c4],.func (.func 119) #[] #[]] W (FRes (q0m n1 l1 n2 l2 n3 l3 n4 l4 divV) W)) (w:World) (hs1:Sl w A1 l1 c1) (hs2:Sl w A2 l2 c2) (hs3:Sl w A3 l3 c3) (hs4:Sl w A4 l4 c4) :
  Calls Tryz.prog 66 #[.agg #[.bool n1,.slice A1 l1.length c1,.bool n2,.slice A2 l2.length c2],.agg #[.bool n3,.slice A3 l3.length c3,.bool n4,.slice A4 l4.length c4]] w (FRes (q0m n1 l1 n2 l2 n3 l3 n4 l4 divV) w):=by
 have S1:=lh hs1;have S2:=lh hs2;have S3:=lh hs3;have S4:=lh hs4;have B:Hid (Below w.heap.size w w):=Below.refl _ _;obtain ⟨⟨⟨⟨np,lp⟩,⟨nq,lq⟩⟩,k⟩,hr⟩:∃ r,r=q0m n1 l1 n2 l2 n3 l3 n4 l4 divV:=⟨_,rfl⟩;have HB:Hid (∀ W,Sl W A1 l1 c1→Sl W A2 l2 c2→Sl W A3 l3 c3→Sl W A4 l4 c4→Calls Tryz.prog 67 #[.agg #[.bool n1,.slice A1 l1.length c1,.bool n2,.slice A2 l2.length c2],.agg #[.bool n3,.slice A3 l3.length c3,.bool n4,.slice A4 l4.length c4],.func (.func 119) #[] #[]] W (FRes (((np,lp),(nq,lq)),k) W)):=fun W a b c d=>by rw [hr]; exact hB W a b c d
 rw [← hr];clear hr hB hs1 hs2 hs3 hs4;go_enter Tryz.func66,Tryz.ntmps66
 go_wp2_with fail
 refine (HB.out _ (((S1.out.alloc _).alloc _).alloc _) (((S2.out.alloc _).alloc _).alloc _) (((S3.out.alloc _).alloc _).alloc _) (((S4.out.alloc _).alloc _).alloc _)).mono ?_;rintro e w1 ⟨A5,c5,A6,c6,rfl,hsp,hsq,hb⟩;replace S1:=kS3 S1 hb;replace S2:=kS3 S2 hb;replace S3:=kS3 S3 hb;replace S4:=kS3 S4 hb;have Fo:Hid (Ff w1 (w.heap.size+1+1)):=Ff.keep (Ff.fresh (by simp) _ _) (Cf.fresh (by simp) _ _ _ _ _ _ _ _ _) hb;have Ka:Hid (Cf w1 w.heap.size n1 A1 l1.length c1 n2 A2 l2.length c2):=Cf.keep (Cf.keep (Cf.keep (Cf.fresh (by simp) _ _ _ _ _ _ _ _ _) (blw1 _ _)) (blw1 _ _)) hb;have Kb:Hid (Cf w1 (w.heap.size+1) n3 A3 l3.length c3 n4 A4 l4.length c4):=Cf.keep (Cf.keep (Cf.fresh (by simp) _ _ _ _ _ _ _ _ _) (blw1 _ _)) hb;have Ko:Hid (Cf w1 (w.heap.size+1+1) false none 0 0 false none 0 0):=Cf.keep (Cf.fresh (by simp) _ _ _ _ _ _ _ _ _) hb;replace B:=kB3 B hb;clear hb;(try dsimp only at hsp hsq);(try dsimp only);have Sp:Hid (Sl w1 A5 lp c5):=hsp;clear hsp;have Sq:Hid (Sl w1 A6 lq c6):=hsq;clear hsq;obtain ⟨qo0,qo1,qo2,qo3⟩:=Ko.out;obtain ⟨fo0,fo1,fo2,fo3⟩:=Fo.out;have hza:=lF Ka;have hzb:=lF Kb;have hzo:=lF Ko;go_wp2_with fail
 exact bodyPost_ret (v:=.tuple #[.agg #[.bool np,.slice A5 lp.length c5,.bool nq,.slice A6 lq.length c6],.int .i64 k]) (by simp [results,Tryz.results66,go_sem,qo0,qo1,qo2,qo3]) rfl (fres_store4 (r:=((np,lp),(nq,lq))) k Sp.out Sq.out Ko.out B.out (by omega) _ _ _ _)
theorem fdiv_any (n1 n2 n3 n4:Bool) (A1 A2 A3 A4:Option Addr) (l1 l2 l3 l4:List Nat) (c1 c2 c3 c4:Nat) (w:World) (hs1:Sl w A1 l1 c1) (hs2:Sl w A2 l2 c2) (hs3:Sl w A3 l3 c3) (hs4:Sl w A4 l4 c4) :
  Calls Tryz.prog 66 #[.agg #[.bool n1,.slice A1 l1.length c1,.bool n2,.slice A2 l2.length c2],.agg #[.bool n3,.slice A3 l3.length c3,.bool n4,.slice A4 l4.length c4]] w (FRes (q0m n1 l1 n2 l2 n3 l3 n4 l4 divV) w):=
 fdiv_of n1 n2 n3 n4 A1 A2 A3 A4 l1 l2 l3 l4 c1 c2 c3 c4 (fun W a b c d=>div_both n1 n2 n3 n4 A1 A2 A3 A4 l1 l2 l3 l4 c1 c2 c3 c4 W a b c d) w hs1 hs2 hs3 hs4
end Go.Proofs.YtgnjhlnolihgcaaGreat
import Derived.Test.YtgnjhlnolihgcaaGreatF6
set_option maxHeartbeats 2000000
set_option maxRecDepth 100000
namespace Go.Proofs.YtgnjhlnolihgcaaGreat
open Go.RowKit
attribute [local go_sem ↓] Go.wp_at_zero Go.wp_at_succ
theorem mul_bothG (n1 n2 n3 n4:Bool) (A1 A2 A3 A4:Option Addr) (l1 l2 l3 l4:List Nat) (c1 c2 c3 c4:Nat) (hg:(bothF n1 l1 n2 l2 n3 l3 n4 l4 mulV).2=0) (w:World) (hs1:Sl w A1 l1 c1) (hs2:Sl w A2 l2 c2) (hs3:Sl w A3 l3 c3) (hs4:Sl w A4 l4 c4) :
  Calls Tryz.prog 67 #[.agg #[.bool n1,.slice A1 l1.length c1,.bool n2,.slice A2 l2.length c2],.agg #[.bool n3,.slice A3 l3.length c3,.bool n4,.slice A4 l4.length c4],.func (.func 118) #[] #[]] w (FRes (bothF n1 l1 n2 l2 n3 l3 n4 l4 mulV) w):=by
 have hF:∀ (args:Array Value) (W:World),(callFunc 118 args).run Tryz.prog W=.ok (.enter 118 args) W:=fun _ _=>rfl
 cases hb1:badF n1 l1 n2 l2 with
 | true=>
  have hr:bothF n1 l1 n2 l2 n3 l3 n4 l4 mulV=(zF,8):=(by unfold bothF; rw [hb1]; rfl);rw [hr];rw [hr] at hg; exact absurd hg (by decide)
 | false=>
  have k1:chkF n1 l1 n2 l2=0:=by unfold chkF; rw [hb1]; rfl
  cases hb2:badF n3 l3 n4 l4 with
  | true=>
   have hr:bothF n1 l1 n2 l2 n3 l3 n4 l4 mulV=(zF,8):=(by unfold bothF; rw [hb1,hb2]; rfl);rw [hr];rw [hr] at hg; exact absurd hg (by decide)
  | false=>
   have k2:chkF n3 l3 n4 l4=0:=(by unfold chkF; rw [hb2]; rfl);have va:=vf_of hs1.lim hs2.lim hb1;have vb:=vf_of hs3.lim hs4.lim hb2;rw [both_good va vb] at hg ⊢;obtain ⟨h1,h2,hp1,_⟩:=va;obtain ⟨h3,h4,hp2,_⟩:=vb;generalize zv n1 l1=x1 at *;generalize zv n2 l2=y1 at *;generalize zv n3 l3=x2 at *;generalize zv n4 l4=y2 at *;unfold mulV at hg ⊢;unfold outF at hg ⊢
   cases f0:fitB (x1 * x2) with
   | false=>
    rw [if_neg (by simp)];rw [f0,if_neg (by simp)] at hg; exact absurd hg (by decide)
   | true=>
    cases f1:fitB (y1 * y2) with
    | false=>
     rw [if_neg (by simp)];rw [f1,if_neg (by simp)] at hg; exact absurd hg (by decide)
    | true=>
     rw [if_pos (by simp)];exact both_ok n1 n2 n3 n4 A1 A2 A3 A4 l1 l2 l3 l4 c1 c2 c3 c4 118 hF k1 k2 _ _ _ _ _ _ (vz_wOf (fitB_iff.1 f0)) (vz_wOf (fitB_iff.1 f1)) (Int.mul_ne_zero (by omega) (by omega)) (fun W a b c d=>mul1_ok n1 n2 n3 n4 A1 A2 A3 A4 l1 l2 l3 l4 c1 c2 c3 c4 x1 y1 x2 y2 h1 h2 h3 h4 (fitB_iff.1 f0) (fitB_iff.1 f1) W a b c d) w hs1 hs2 hs3 hs4
theorem fmul_of (n1 n2 n3 n4:Bool) (A1 A2 A3 A4:Option Addr) (l1 l2 l3 l4:List Nat) (c1 c2 c3 c4:Nat) (hB:∀ W,Sl W A1 l1 c1→Sl W A2 l2 c2→Sl W A3 l3 c3→Sl W A4 l4 c4→Calls Tryz.prog 67 #[.agg #[.bool n1,.slice A1 l1.length c1,.bool n2,.slice A2 l2.length c2],.agg #[.bool n3,.slice A3 l3.length c3,.bool n4,.slice A4 l4.length c4],.func (.func 118) #[] #[]] W (FRes (bothF n1 l1 n2 l2 n3 l3 n4 l4 mulV) W)) (w:World) (hs1:Sl w A1 l1 c1) (hs2:Sl w A2 l2 c2) (hs3:Sl w A3 l3 c3) (hs4:Sl w A4 l4 c4) :
  Calls Tryz.prog 65 #[.agg #[.bool n1,.slice A1 l1.length c1,.bool n2,.slice A2 l2.length c2],.agg #[.bool n3,.slice A3 l3.length c3,.bool n4,.slice A4 l4.length c4]] w (FRes (bothF n1 l1 n2 l2 n3 l3 n4 l4 mulV) w):=by
 have S1:=Lib.hid hs1;have S2:=Lib.hid hs2;have S3:=Lib.hid hs3;have S4:=Lib.hid hs4;have B:Hid (Below w.heap.size w w):=Below.refl _ _;obtain ⟨⟨⟨⟨np,lp⟩,⟨nq,lq⟩⟩,k⟩,hr⟩:∃ r,r=bothF n1 l1 n2 l2 n3 l3 n4 l4 mulV:=⟨_,rfl⟩;have HB:Hid (∀ W,Sl W A1 l1 c1→Sl W A2 l2 c2→Sl W A3 l3 c3→Sl W A4 l4 c4→Calls Tryz.prog 67 #[.agg #[.bool n1,.slice A1 l1.length c1,.bool n2,.slice A2 l2.length c2],.agg #[.bool n3,.slice A3 l3.length c3,.bool n4,.slice A4 l4.length c4],.func (.func 118) #[] #[]] W (FRes (((np,lp),(nq,lq)),k) W)):=fun W a b c d=>by rw [hr]; exact hB W a b c d
 rw [← hr];clear hr hB hs1 hs2 hs3 hs4;go_enter Tryz.func65,Tryz.ntmps65
 go_wp2_with fail
 refine (HB.out _ (((S1.out.alloc _).alloc _).alloc _) (((S2.out.alloc _).alloc _).alloc _) (((S3.out.alloc _).alloc _).alloc _) (((S4.out.alloc _).alloc _).alloc _)).mono ?_;rintro e w1 ⟨A5,c5,A6,c6,rfl,hsp,hsq,hb⟩;replace S1:=kS3 S1 hb;replace S2:=kS3 S2 hb;replace S3:=kS3 S3 hb;replace S4:=kS3 S4 hb;have Fo:Hid (Ff w1 (w.heap.size+1+1)):=Ff.keep (Ff.fresh (by simp) _ _) (Cf.fresh (by simp) _ _ _ _ _ _ _ _ _) hb;have Ka:Hid (Cf w1 w.heap.size n1 A1 l1.length c1 n2 A2 l2.length c2):=Cf.keep (Cf.keep (Cf.keep (Cf.fresh (by simp) _ _ _ _ _ _ _ _ _) (blw1 _ _)) (blw1 _ _)) hb;have Kb:Hid (Cf w1 (w.heap.size+1) n3 A3 l3.length c3 n4 A4 l4.length c4):=Cf.keep (Cf.keep (Cf.fresh (by simp) _ _ _ _ _ _ _ _ _) (blw1 _ _)) hb;have Ko:Hid (Cf w1 (w.heap.size+1+1) false none 0 0 false none 0 0):=Cf.keep (Cf.fresh (by simp) _ _ _ _ _ _ _ _ _) hb;replace B:=kB3 B hb;clear hb;(try dsimp only at hsp hsq);(try dsimp only);have Sp:Hid (Sl w1 A5 lp c5):=hsp;clear hsp;have Sq:Hid (Sl w1 A6 lq c6):=hsq;clear hsq;obtain ⟨qo0,qo1,qo2,qo3⟩:=Ko.out;obtain ⟨fo0,fo1,fo2,fo3⟩:=Fo.out;have hza:=lF Ka;have hzb:=lF Kb;have hzo:=lF Ko;go_wp2_with fail
 exact bodyPost_ret (v:=.tuple #[.agg #[.bool np,.slice A5 lp.length c5,.bool nq,.slice A6 lq.length c6],.int .i64 k]) (by simp [results,Tryz.results65,go_sem,qo0,qo1,qo2,qo3]) rfl (fres_store4 (r:=((np,lp),(nq,lq))) k Sp.out Sq.out Ko.out B.out (by omega) _ _ _ _)
theorem fmul_good (n1 n2 n3 n4:Bool) (A1 A2 A3 A4:Option Addr) (l1 l2 l3 l4:List Nat) (c1 c2 c3 c4:Nat) (hg:(bothF n1 l1 n2 l2 n3 l3 n4 l4 mulV).2=0) (w:World) (hs1:Sl w A1 l1 c1) (hs2:Sl w A2 l2 c2) (hs3:Sl w A3 l3 c3) (hs4:Sl w A4 l4 c4) :
  Calls Tryz.prog 65 #[.agg #[.bool n1,.slice A1 l1.length c1,.bool n2,.slice A2 l2.length c2],.agg #[.bool n3,.slice A3 l3.length c3,.bool n4,.slice A4 l4.length c4]] w (FRes (bothF n1 l1 n2 l2 n3 l3 n4 l4 mulV) w):=
 fmul_of n1 n2 n3 n4 A1 A2 A3 A4 l1 l2 l3 l4 c1 c2 c3 c4 (fun W a b c d=>mul_bothG n1 n2 n3 n4 A1 A2 A3 A4 l1 l2 l3 l4 c1 c2 c3 c4 hg W a b c d) w hs1 hs2 hs3 hs4
end Go.Proofs.YtgnjhlnolihgcaaGreat
import Derived.Test.YtgnjhlnolihgcaaGreatF1
import Derived.Deep.RegionWith
import Derived.BigQuiet
import Derived.Deep.QuietTactic
import Derived.Deep.RegionHeld3
import Derived.Test.YtgnjhlnolihgcaaGreatMg1
set_option maxHeartbeats 2000000
set_option maxRecDepth 100000
namespace Go.Proofs.YtgnjhlnolihgcaaGreat
open Lib renaming hid → lh
open Go.RowKit
attribute [local go_sem ↓] Go.wp_at_zero Go.wp_at_succ
theorem fcheck_any (n1 n2:Bool) (A1 A2:Option Addr) (l1 l2:List Nat) (c1 c2:Nat) (w:World) (hs1:Sl w A1 l1 c1) (hs2:Sl w A2 l2 c2) :
  Calls Tryz.prog 75 #[.agg #[.bool n1,.slice A1 l1.length c1,.bool n2,.slice A2 l2.length c2]] w fun e w'=>e=.returned (.int .i64 (chkF n1 l1 n2 l2))∧Below w.heap.size w w':=by
 have S1:=lh hs1;have S2:=lh hs2;have B:Hid (Below w.heap.size w w):=Below.refl _ _
 cases hbad:badL n1 l1 || badL n2 l2 with
 | true=>
  have hr:chkF n1 l1 n2 l2=8:=(by unfold chkF badF; rw [hbad]; rfl);have e1:Hid (gcdS n1 l1 n2 l2=((false,[]),8)):=(by rw [Hid,gcdS,hbad,if_pos rfl]);rw [hr];clear hs1 hs2 hr hbad;go_enter Tryz.func75,Tryz.ntmps75
  go_wp2_with fail
  refine (wgcd_any _ _ _ _ _ _ _ _ _ (S1.out.alloc _) (S2.out.alloc _)).mono ?_;rw [e1.out];rintro e w1 ⟨A1',c1',rfl,hsg,hb⟩;replace S1:=kS1 S1 hb;replace S2:=kS1 S2 hb;have Ka:Hid (Cf w1 w.heap.size n1 A1 l1.length c1 n2 A2 l2.length c2):=Cf.keep (Cf.fresh (by simp) _ _ _ _ _ _ _ _ _) hb;replace B:=kB1 B hb;clear hb;clear hsg;obtain ⟨qa0,qa1,qa2,qa3⟩:=Ka.out;have hza:=lF Ka;go_wp2_with fail
  go_quiet (fail)
  go_wp2
  go_ret
  exact ⟨rfl,below_drewN (q0a B.out (blw1 _ _)) _⟩
 | false=>
  have hg:=Bool.or_eq_false_iff.1 hbad;have h1:=vz_of hs1.lim hg.1;have h2:=vz_of hs2.lim hg.2;obtain ⟨ng,lg,hgc⟩:∃ ng lg,wOf (Int.gcd (zv n1 l1) (zv n2 l2):Int)=(ng,lg):=⟨_,_,rfl⟩;have vg:=vz_mk hgc.symm (fit_gcd h1.2 h2.2);have e1:Hid (gcdS n1 l1 n2 l2=((ng,lg),0)):=(by rw [← hgc]; exact vz_gcd h1 h2);obtain ⟨no,lo,ho⟩:∃ no lo,wOf 1=(no,lo):=⟨_,_,rfl⟩;have vo:=vz_mk ho.symm fit_one;have hO:Hid (∀ W,Calls Tryz.prog 125 #[] W (WRes1 (no,lo) W)):=fun W=>by rw [← ho]; exact one_any W
  obtain ⟨t,ht⟩:∃ t,t=decide (Nat.gcd (val l1) (val l2)=1):=⟨_,rfl⟩
  have e2:Hid (((cmpS ng lg no lo).1 == 0)=t):=by
   have hgg:Int.gcd (zv n1 l1) (zv n2 l2)=Nat.gcd (val l1) (val l2):=(by rw [h1.val_eq,h2.val_eq]; rfl);rw [Hid,cmpS_z vg vo,ht,Bool.eq_iff_iff,beq_iff_eq,decide_eq_true_iff,hgg];simp only [cmpZ];omega
  have hr:chkF n1 l1 n2 l2=if n2 || decide (l2.length=0) || !t then 8 else 0:=by
   unfold chkF badF;rw [hbad,Bool.false_or,ht]
  rw [hr];clear hs1 hs2 hr hbad hg h1 h2 hgc vg ho vo ht
  cases n2 with
  | true=>
   simp only [Bool.true_or,if_true];go_enter Tryz.func75,Tryz.ntmps75
   go_wp2_with fail
   refine (wgcd_any _ _ _ _ _ _ _ _ _ (S1.out.alloc _) (S2.out.alloc _)).mono ?_;rw [e1.out];rintro e w1 ⟨A1',c1',rfl,hsg,hb⟩;replace S1:=kS1 S1 hb;replace S2:=kS1 S2 hb;have Ka:Hid (Cf w1 w.heap.size n1 A1 l1.length c1 true A2 l2.length c2):=Cf.keep (Cf.fresh (by simp) _ _ _ _ _ _ _ _ _) hb;replace B:=kB1 B hb;clear hb;have Sg:Hid (Sl w1 A1' lg c1'):=hsg;clear hsg;obtain ⟨qa0,qa1,qa2,qa3⟩:=Ka.out;have hza:=lF Ka;have hkag:=hza;go_wp2_with fail
   go_quiet (fail)
   go_wp2
   go_ret
   exact ⟨rfl,below_drewN (q0a B.out (blw1 _ _)) _⟩
  | false=>
   simp only [Bool.false_or];by_cases hl:l2.length=0
   ·have hz:Hid (((l2.length:Int) == 0)=true):=(by rw [Hid,beq_iff_eq]; omega);rw [decide_eq_true hl,Bool.true_or,if_pos rfl];clear hl;go_enter Tryz.func75,Tryz.ntmps75
    go_wp2_with fail
    refine (wgcd_any _ _ _ _ _ _ _ _ _ (S1.out.alloc _) (S2.out.alloc _)).mono ?_;rw [e1.out];rintro e w1 ⟨A1',c1',rfl,hsg,hb⟩;replace S1:=kS1 S1 hb;replace S2:=kS1 S2 hb;have Ka:Hid (Cf w1 w.heap.size n1 A1 l1.length c1 false A2 l2.length c2):=Cf.keep (Cf.fresh (by simp) _ _ _ _ _ _ _ _ _) hb;replace B:=kB1 B hb;clear hb;have Sg:Hid (Sl w1 A1' lg c1'):=hsg;clear hsg;obtain ⟨qa0,qa1,qa2,qa3⟩:=Ka.out;have hza:=lF Ka;have hkag:=hza;go_wp2_with fail
    have J0:Hid (((w1.alloc (.cells #[.bool ng,.slice A1' lg.length c1'] 46)).drew).cell? ⟨w.heap.size,0,none⟩=some (.bool n1)∧((w1.alloc (.cells #[.bool ng,.slice A1' lg.length c1'] 46)).drew).cell? ⟨w.heap.size,1,none⟩=some (.slice A1 l1.length c1)∧((w1.alloc (.cells #[.bool ng,.slice A1' lg.length c1'] 46)).drew).cell? ⟨w.heap.size,2,none⟩=some (.bool false)∧((w1.alloc (.cells #[.bool ng,.slice A1' lg.length c1'] 46)).drew).cell? ⟨w.heap.size,3,none⟩=some (.slice A2 l2.length c2)∧((w1.alloc (.cells #[.bool ng,.slice A1' lg.length c1'] 46)).drew).cell? ⟨w1.heap.size,0,none⟩=some (.bool ng)∧((w1.alloc (.cells #[.bool ng,.slice A1' lg.length c1'] 46)).drew).cell? ⟨w1.heap.size,1,none⟩=some (.slice A1' lg.length c1')):=⟨(Cf.keep Ka.out (blw1 _ _)).1,(Cf.keep Ka.out (blw1 _ _)).2.1,(Cf.keep Ka.out (blw1 _ _)).2.2.1,(Cf.keep Ka.out (blw1 _ _)).2.2.2,(Cw.fresh rfl _ _ _ _ _).1,(Cw.fresh rfl _ _ _ _ _).2⟩;have SG:Hid (Sl ((w1.alloc (.cells #[.bool ng,.slice A1' lg.length c1'] 46)).drew) A1' lg c1'):=(Sg.out.alloc _).drew;have BX:Hid (Below w.heap.size w ((w1.alloc (.cells #[.bool ng,.slice A1' lg.length c1'] 46)).drew)):=(q0a B.out (blw1 _ _)).drew;clear S1 S2 Sg B
    go_region_with (first
      | (go_at_call 115; refine (zero_any false A2 l2 c2 _).mono ?_; rw [hz.out]; rintro e v1 ⟨rfl,hb⟩; have J1:=lh (keep6 hb J0.out); obtain ⟨u0,u1,u2,u3,u4,u5⟩:=J1.out; have SG1:=lh (SG.out.below hb); have B1:=lh (q0a BX.out hb); clear hb))
    all_goals (go_wp2; go_ret; exact ⟨rfl,B1.out⟩)
   ·have hz:Hid (((l2.length:Int) == 0)=false):=(by rw [Hid,beq_eq_false_iff_ne]; omega);rw [decide_eq_false hl,Bool.false_or];clear hl;go_enter Tryz.func75,Tryz.ntmps75
    go_wp2_with fail
    refine (wgcd_any _ _ _ _ _ _ _ _ _ (S1.out.alloc _) (S2.out.alloc _)).mono ?_;rw [e1.out];rintro e w1 ⟨A1',c1',rfl,hsg,hb⟩;replace S1:=kS1 S1 hb;replace S2:=kS1 S2 hb;have Ka:Hid (Cf w1 w.heap.size n1 A1 l1.length c1 false A2 l2.length c2):=Cf.keep (Cf.fresh (by simp) _ _ _ _ _ _ _ _ _) hb;replace B:=kB1 B hb;clear hb;have Sg:Hid (Sl w1 A1' lg c1'):=hsg;clear hsg;obtain ⟨qa0,qa1,qa2,qa3⟩:=Ka.out;have hza:=lF Ka;have hkag:=hza;go_wp2_with fail
    have J0:Hid (((w1.alloc (.cells #[.bool ng,.slice A1' lg.length c1'] 46)).drew).cell? ⟨w.heap.size,0,none⟩=some (.bool n1)∧((w1.alloc (.cells #[.bool ng,.slice A1' lg.length c1'] 46)).drew).cell? ⟨w.heap.size,1,none⟩=some (.slice A1 l1.length c1)∧((w1.alloc (.cells #[.bool ng,.slice A1' lg.length c1'] 46)).drew).cell? ⟨w.heap.size,2,none⟩=some (.bool false)∧((w1.alloc (.cells #[.bool ng,.slice A1' lg.length c1'] 46)).drew).cell? ⟨w.heap.size,3,none⟩=some (.slice A2 l2.length c2)∧((w1.alloc (.cells #[.bool ng,.slice A1' lg.length c1'] 46)).drew).cell? ⟨w1.heap.size,0,none⟩=some (.bool ng)∧((w1.alloc (.cells #[.bool ng,.slice A1' lg.length c1'] 46)).drew).cell? ⟨w1.heap.size,1,none⟩=some (.slice A1' lg.length c1')):=⟨(Cf.keep Ka.out (blw1 _ _)).1,(Cf.keep Ka.out (blw1 _ _)).2.1,(Cf.keep Ka.out (blw1 _ _)).2.2.1,(Cf.keep Ka.out (blw1 _ _)).2.2.2,(Cw.fresh rfl _ _ _ _ _).1,(Cw.fresh rfl _ _ _ _ _).2⟩;have SG:Hid (Sl ((w1.alloc (.cells #[.bool ng,.slice A1' lg.length c1'] 46)).drew) A1' lg c1'):=(Sg.out.alloc _).drew;have BX:Hid (Below w.heap.size w ((w1.alloc (.cells #[.bool ng,.slice A1' lg.length c1'] 46)).drew)):=(q0a B.out (blw1 _ _)).drew;clear S1 S2 Sg B
    go_region_with (first
      | (go_at_call 115; refine (zero_any false A2 l2 c2 _).mono ?_; rw [hz.out]; rintro e v1 ⟨rfl,hb⟩; have J1:=lh (keep6 hb J0.out); obtain ⟨u0,u1,u2,u3,u4,u5⟩:=J1.out; have SG1:=lh (SG.out.below hb); have B1:=lh (q0a BX.out hb); clear hb)
      | (go_at_call 125; refine (hO.out _).mono ?_; rintro e x2 ⟨A3,c3,rfl,hs3,hb⟩; (try dsimp only at hs3); (try dsimp only); have S3:=lh hs3; have J2:=lh (keep6 hb J1.out); obtain ⟨v0,v1,v2,v3,v4,v5⟩:=J2.out; have SG2:=lh (SG1.out.below hb); have B2:=lh (q0a B1.out hb); clear hb hs3)
      | (go_at_call 124; refine (fsame_any ng no _ _ lg lo _ _ _ SG2.out S3.out).mono ?_; rw [e2.out]; rintro e v3 ⟨rfl,hb⟩; have J3:=lh (keep6 hb J2.out); have B3:=lh (q0a B2.out hb); clear hb))
    all_goals (cases t <;> (go_wp2; go_ret; exact ⟨rfl,B3.out⟩))
end Go.Proofs.YtgnjhlnolihgcaaGreat
namespace Go.Proofs.YtgnjhlnolihgcaaGreat
open Lib renaming hid → lh
open Go.RowKit
attribute [local go_sem ↓] Go.wp_at_zero Go.wp_at_succ
theorem fres_fall {w w2:World} {g:Nat} (k:Int) (hb:Below w.heap.size w w2) (hg:w.heap.size≤g) (v:Value) (o:Obj) :
  FRes (zF,k) w (.returned (.tuple #[.agg #[.bool false,.slice none 0 0,.bool false,.slice none 0 0],.int .i64 k])) ((w2.setCell ⟨g,0,none⟩ v).alloc o):=
 ⟨none,0,none,0,rfl,Sl.nil _ _ _,Sl.nil _ _ _,q0a (hb.setCell (p:=⟨g,0,none⟩) hg v) (blw1 _ _)⟩
theorem fres_store {r:(Bool × List Nat) × (Bool × List Nat)} {w w3:World} {g ge c c':Nat} {A A':Option Addr} {n1 n2:Bool} {A1 A2:Option Addr} {m1 c1 m2 c2:Nat} {z:Int} (k:Int) (hs:Sl w3 A r.1.2 c) (hs':Sl w3 A' r.2.2 c') (q:Cf w3 g n1 A1 m1 c1 n2 A2 m2 c2) (qe:C1 w3 ge (.int .i64 z)) (hne:ge≠g) (hb:Below w.heap.size w w3) (hg:w.heap.size≤g) (hge:w.heap.size≤ge) (x y t u v:Value) :
  FRes (r,k) w (.returned (.tuple #[.agg #[.bool r.1.1,.slice A r.1.2.length c,.bool r.2.1,.slice A' r.2.2.length c'],.int .i64 k])) (((((w3.setCell ⟨g,0,none⟩ x).setCell ⟨g,1,none⟩ y).setCell ⟨g,2,none⟩ t).setCell ⟨g,3,none⟩ u).setCell ⟨ge,0,none⟩ v):=by
 have h:((((w3.setCell ⟨g,0,none⟩ x).setCell ⟨g,1,none⟩ y).setCell ⟨g,2,none⟩ t).setCell ⟨g,3,none⟩ u).cell? ⟨ge,0,none⟩=some (.int .i64 z):=by
  have ho:∀ i,(⟨g,i,none⟩:Addr)≠⟨ge,0,none⟩:=fun i e=>hne (congrArg Addr.block e).symm;rw [World.cell?_setCell_other _ _ _ _ (ho 3),World.cell?_setCell_other _ _ _ _ (ho 2),World.cell?_setCell_other _ _ _ _ (ho 1),World.cell?_setCell_other _ _ _ _ (ho 0)];exact qe.1
 exact ⟨A,c,A',c',rfl,(hs.setF q _ _ _ _).set1' h (by decide) _,(hs'.setF q _ _ _ _).set1' h (by decide) _,(q1a hb hg _ _ _ _).setCell (p:=⟨ge,0,none⟩) hge _⟩
theorem make_any (n1 n2:Bool) (A1 A2:Option Addr) (l1 l2:List Nat) (c1 c2:Nat) (w:World) (hs1:Sl w A1 l1 c1) (hs2:Sl w A2 l2 c2) :
  Calls Tryz.prog 63 #[.agg #[.bool n1,.slice A1 l1.length c1],.agg #[.bool n2,.slice A2 l2.length c2]] w (FRes (makeS n1 l1 n2 l2) w):=by
 have S1:=lh hs1;have S2:=lh hs2;have B:Hid (Below w.heap.size w w):=Below.refl _ _
 cases h1:badL n1 l1 with
 | true=>
  have hr:makeS n1 l1 n2 l2=(zF,8):=(by unfold makeS; rw [h1]; rfl);have e1:Hid (chk n1 l1=8):=chk_bad h1;rw [hr];clear hs1 hs2 hr h1;go_enter_defers Tryz.func63,Tryz.ntmps63
  go_wp2_with fail
  refine (wcheck_any _ _ _ _ _ ((((S1.out.alloc _).alloc _).alloc _).alloc _)).mono ?_;rw [e1.out];rintro e w1 ⟨rfl,hb⟩;replace S1:=kS4 S1 hb;replace S2:=kS4 S2 hb;have Fo:Hid (Ff w1 (w.heap.size+1+1)):=Ff.keep (Ff.keep (Ff.fresh (by simp) _ _) (Cf.fresh (by simp) _ _ _ _ _ _ _ _ _) (blw1 _ _)) (Cf.keep (Cf.fresh (by simp) _ _ _ _ _ _ _ _ _) (blw1 _ _)) hb;have Ka:Hid (Cw w1 w.heap.size n1 A1 l1.length c1):=Cw.keep (Cw.keep (Cw.keep (Cw.keep (Cw.fresh (by simp) _ _ _ _ _) (blw1 _ _)) (blw1 _ _)) (blw1 _ _)) hb;have Kb:Hid (Cw w1 (w.heap.size+1) n2 A2 l2.length c2):=Cw.keep (Cw.keep (Cw.keep (Cw.fresh (by simp) _ _ _ _ _) (blw1 _ _)) (blw1 _ _)) hb;have Ko:Hid (Cf w1 (w.heap.size+1+1) false none 0 0 false none 0 0):=Cf.keep (Cf.keep (Cf.fresh (by simp) _ _ _ _ _ _ _ _ _) (blw1 _ _)) hb;have Ke:Hid (C1 w1 (w.heap.size+1+1+1) (.int .i64 0)):=C1.keep (C1.fresh (by simp) _ _) hb;replace B:=kB4 B hb;clear hb;obtain ⟨qa0,qa1⟩:=Ka.out;obtain ⟨qb0,qb1⟩:=Kb.out;have hza:=lW Ka;have hzb:=lW Kb;have hzo:=lF Ko;have hze:=lC Ke;go_wp2_with fail
  refine (want_bad 8 (by decide) _).mono ?_;rintro e w2 ⟨rfl,hb⟩;clear qa0 qa1 qb0 qb1;replace S1:=kS S1 hb;replace S2:=kS S2 hb;replace Fo:=kFf Fo Ko hb;replace Ka:=kW Ka hb;replace Kb:=kW Kb hb;replace Ko:=kF Ko hb;replace Ke:=kC Ke hb;replace B:=kB B hb;clear hb;go_wp2_with fail
  refine leaves_cons (f:=73) (args:=#[.pointer (some ⟨w.heap.size+1+1+1,0,none⟩)]) (by simp) (by simp [go_sem]) ?_;refine (catch_fall (w.heap.size+1+1+1) 0 8 [] _ Ke.out).mono ?_;rintro e u' w'' ⟨rfl,rfl,ob,rfl⟩;obtain ⟨qo0,qo1,qo2,qo3⟩:=Ko.out;obtain ⟨fo0,fo1,fo2,fo3⟩:=Fo.out;have hze2:w.heap.size+1+1 < w2.heap.size:=lt_of_cell (a:=⟨w.heap.size+1+1,0,none⟩) qo0;have hze3:=lC Ke;simp [Leaves,settle,results,Tryz.results63,go_sem,qo0,qo1,qo2,qo3,hze2,hze3,Ke.out.1];exact fres_fall 8 B.out (by omega) _ _
 | false=>
  have e1:Hid (chk n1 l1=0):=q1s h1
  cases h2:badL n2 l2 with
  | true=>
   have hr:makeS n1 l1 n2 l2=(zF,8):=(by unfold makeS; rw [h1,h2]; rfl);have e2:Hid (chk n2 l2=8):=chk_bad h2;rw [hr];clear hs1 hs2 hr h1 h2;go_enter_defers Tryz.func63,Tryz.ntmps63
   go_wp2_with fail
   refine (wcheck_any _ _ _ _ _ ((((S1.out.alloc _).alloc _).alloc _).alloc _)).mono ?_;rw [e1.out];rintro e w1 ⟨rfl,hb⟩;replace S1:=kS4 S1 hb;replace S2:=kS4 S2 hb;have Fo:Hid (Ff w1 (w.heap.size+1+1)):=Ff.keep (Ff.keep (Ff.fresh (by simp) _ _) (Cf.fresh (by simp) _ _ _ _ _ _ _ _ _) (blw1 _ _)) (Cf.keep (Cf.fresh (by simp) _ _ _ _ _ _ _ _ _) (blw1 _ _)) hb;have Ka:Hid (Cw w1 w.heap.size n1 A1 l1.length c1):=Cw.keep (Cw.keep (Cw.keep (Cw.keep (Cw.fresh (by simp) _ _ _ _ _) (blw1 _ _)) (blw1 _ _)) (blw1 _ _)) hb;have Kb:Hid (Cw w1 (w.heap.size+1) n2 A2 l2.length c2):=Cw.keep (Cw.keep (Cw.keep (Cw.fresh (by simp) _ _ _ _ _) (blw1 _ _)) (blw1 _ _)) hb;have Ko:Hid (Cf w1 (w.heap.size+1+1) false none 0 0 false none 0 0):=Cf.keep (Cf.keep (Cf.fresh (by simp) _ _ _ _ _ _ _ _ _) (blw1 _ _)) hb;have Ke:Hid (C1 w1 (w.heap.size+1+1+1) (.int .i64 0)):=C1.keep (C1.fresh (by simp) _ _) hb;replace B:=kB4 B hb;clear hb;obtain ⟨qa0,qa1⟩:=Ka.out;obtain ⟨qb0,qb1⟩:=Kb.out;have hza:=lW Ka;have hzb:=lW Kb;have hzo:=lF Ko;have hze:=lC Ke;go_wp2_with fail
   refine (want_ok _).mono ?_;rintro e w2 ⟨rfl,hb⟩;clear qa0 qa1 qb0 qb1;replace S1:=kS S1 hb;replace S2:=kS S2 hb;replace Fo:=kFf Fo Ko hb;replace Ka:=kW Ka hb;replace Kb:=kW Kb hb;replace Ko:=kF Ko hb;replace Ke:=kC Ke hb;replace B:=kB B hb;clear hb;obtain ⟨qa0,qa1⟩:=Ka.out;obtain ⟨qb0,qb1⟩:=Kb.out;replace hza:=lW Ka;replace hzb:=lW Kb;replace hzo:=lF Ko;replace hze:=lC Ke;go_wp2_with fail
   refine (wcheck_any _ _ _ _ _ S2.out).mono ?_;rw [e2.out];rintro e w3 ⟨rfl,hb⟩;clear qa0 qa1 qb0 qb1;replace S1:=kS S1 hb;replace S2:=kS S2 hb;replace Fo:=kFf Fo Ko hb;replace Ka:=kW Ka hb;replace Kb:=kW Kb hb;replace Ko:=kF Ko hb;replace Ke:=kC Ke hb;replace B:=kB B hb;clear hb;obtain ⟨qa0,qa1⟩:=Ka.out;obtain ⟨qb0,qb1⟩:=Kb.out;replace hza:=lW Ka;replace hzb:=lW Kb;replace hzo:=lF Ko;replace hze:=lC Ke;go_wp2_with fail
   refine (want_bad 8 (by decide) _).mono ?_;rintro e w4 ⟨rfl,hb⟩;clear qa0 qa1 qb0 qb1;replace S1:=kS S1 hb;replace S2:=kS S2 hb;replace Fo:=kFf Fo Ko hb;replace Ka:=kW Ka hb;replace Kb:=kW Kb hb;replace Ko:=kF Ko hb;replace Ke:=kC Ke hb;replace B:=kB B hb;clear hb;go_wp2_with fail
   refine leaves_cons (f:=73) (args:=#[.pointer (some ⟨w.heap.size+1+1+1,0,none⟩)]) (by simp) (by simp [go_sem]) ?_;refine (catch_fall (w.heap.size+1+1+1) 0 8 [] _ Ke.out).mono ?_;rintro e u' w'' ⟨rfl,rfl,ob,rfl⟩;obtain ⟨qo0,qo1,qo2,qo3⟩:=Ko.out;obtain ⟨fo0,fo1,fo2,fo3⟩:=Fo.out;have hze2:w.heap.size+1+1 < w4.heap.size:=lt_of_cell (a:=⟨w.heap.size+1+1,0,none⟩) qo0;have hze3:=lC Ke;simp [Leaves,settle,results,Tryz.results63,go_sem,qo0,qo1,qo2,qo3,hze2,hze3,Ke.out.1];exact fres_fall 8 B.out (by omega) _ _
  | false=>
   have v1:=vz_of hs1.lim h1;have v2:=vz_of hs2.lim h2;have e2:Hid (chk n2 l2=0):=q1s h2;by_cases hl:l2.length=0
   ·have hr:makeS n1 l1 n2 l2=(zF,18):=(by unfold makeS; rw [h1,h2,if_neg (by simp),if_pos hl]);have hz:Hid (((l2.length:Int) == 0)=true):=(by rw [Hid,beq_iff_eq]; omega);rw [hr];clear hs1 hs2 hr h1 h2 v1 v2 hl;go_enter_defers Tryz.func63,Tryz.ntmps63
    go_wp2_with fail
    refine (wcheck_any _ _ _ _ _ ((((S1.out.alloc _).alloc _).alloc _).alloc _)).mono ?_;rw [e1.out];rintro e w1 ⟨rfl,hb⟩;replace S1:=kS4 S1 hb;replace S2:=kS4 S2 hb;have Fo:Hid (Ff w1 (w.heap.size+1+1)):=Ff.keep (Ff.keep (Ff.fresh (by simp) _ _) (Cf.fresh (by simp) _ _ _ _ _ _ _ _ _) (blw1 _ _)) (Cf.keep (Cf.fresh (by simp) _ _ _ _ _ _ _ _ _) (blw1 _ _)) hb;have Ka:Hid (Cw w1 w.heap.size n1 A1 l1.length c1):=Cw.keep (Cw.keep (Cw.keep (Cw.keep (Cw.fresh (by simp) _ _ _ _ _) (blw1 _ _)) (blw1 _ _)) (blw1 _ _)) hb;have Kb:Hid (Cw w1 (w.heap.size+1) n2 A2 l2.length c2):=Cw.keep (Cw.keep (Cw.keep (Cw.fresh (by simp) _ _ _ _ _) (blw1 _ _)) (blw1 _ _)) hb;have Ko:Hid (Cf w1 (w.heap.size+1+1) false none 0 0 false none 0 0):=Cf.keep (Cf.keep (Cf.fresh (by simp) _ _ _ _ _ _ _ _ _) (blw1 _ _)) hb;have Ke:Hid (C1 w1 (w.heap.size+1+1+1) (.int .i64 0)):=C1.keep (C1.fresh (by simp) _ _) hb;replace B:=kB4 B hb;clear hb;obtain ⟨qa0,qa1⟩:=Ka.out;obtain ⟨qb0,qb1⟩:=Kb.out;have hza:=lW Ka;have hzb:=lW Kb;have hzo:=lF Ko;have hze:=lC Ke;go_wp2_with fail
    refine (want_ok _).mono ?_;rintro e w2 ⟨rfl,hb⟩;clear qa0 qa1 qb0 qb1;replace S1:=kS S1 hb;replace S2:=kS S2 hb;replace Fo:=kFf Fo Ko hb;replace Ka:=kW Ka hb;replace Kb:=kW Kb hb;replace Ko:=kF Ko hb;replace Ke:=kC Ke hb;replace B:=kB B hb;clear hb;obtain ⟨qa0,qa1⟩:=Ka.out;obtain ⟨qb0,qb1⟩:=Kb.out;replace hza:=lW Ka;replace hzb:=lW Kb;replace hzo:=lF Ko;replace hze:=lC Ke;go_wp2_with fail
    refine (wcheck_any _ _ _ _ _ S2.out).mono ?_;rw [e2.out];rintro e w3 ⟨rfl,hb⟩;clear qa0 qa1 qb0 qb1;replace S1:=kS S1 hb;replace S2:=kS S2 hb;replace Fo:=kFf Fo Ko hb;replace Ka:=kW Ka hb;replace Kb:=kW Kb hb;replace Ko:=kF Ko hb;replace Ke:=kC Ke hb;replace B:=kB B hb;clear hb;obtain ⟨qa0,qa1⟩:=Ka.out;obtain ⟨qb0,qb1⟩:=Kb.out;replace hza:=lW Ka;replace hzb:=lW Kb;replace hzo:=lF Ko;replace hze:=lC Ke;go_wp2_with fail
    refine (want_ok _).mono ?_;rintro e w4 ⟨rfl,hb⟩;clear qa0 qa1 qb0 qb1;replace S1:=kS S1 hb;replace S2:=kS S2 hb;replace Fo:=kFf Fo Ko hb;replace Ka:=kW Ka hb;replace Kb:=kW Kb hb;replace Ko:=kF Ko hb;replace Ke:=kC Ke hb;replace B:=kB B hb;clear hb;obtain ⟨qa0,qa1⟩:=Ka.out;obtain ⟨qb0,qb1⟩:=Kb.out;replace hza:=lW Ka;replace hzb:=lW Kb;replace hzo:=lF Ko;replace hze:=lC Ke;go_wp2_with fail
    refine (zero_any n2 A2 l2 c2 _).mono ?_;rw [hz.out];rintro e w5 ⟨rfl,hb⟩;clear qa0 qa1 qb0 qb1;replace S1:=kS S1 hb;replace S2:=kS S2 hb;replace Fo:=kFf Fo Ko hb;replace Ka:=kW Ka hb;replace Kb:=kW Kb hb;replace Ko:=kF Ko hb;replace Ke:=kC Ke hb;replace B:=kB B hb;clear hb;obtain ⟨qa0,qa1⟩:=Ka.out;obtain ⟨qb0,qb1⟩:=Kb.out;replace hza:=lW Ka;replace hzb:=lW Kb;replace hzo:=lF Ko;replace hze:=lC Ke;go_wp2_with fail
    refine (want_bad 18 (by decide) _).mono ?_;rintro e w6 ⟨rfl,hb⟩;clear qa0 qa1 qb0 qb1;replace S1:=kS S1 hb;replace S2:=kS S2 hb;replace Fo:=kFf Fo Ko hb;replace Ka:=kW Ka hb;replace Kb:=kW Kb hb;replace Ko:=kF Ko hb;replace Ke:=kC Ke hb;replace B:=kB B hb;clear hb;go_wp2_with fail
    refine leaves_cons (f:=73) (args:=#[.pointer (some ⟨w.heap.size+1+1+1,0,none⟩)]) (by simp) (by simp [go_sem]) ?_;refine (catch_fall (w.heap.size+1+1+1) 0 18 [] _ Ke.out).mono ?_;rintro e u' w'' ⟨rfl,rfl,ob,rfl⟩;obtain ⟨qo0,qo1,qo2,qo3⟩:=Ko.out;obtain ⟨fo0,fo1,fo2,fo3⟩:=Fo.out;have hze2:w.heap.size+1+1 < w6.heap.size:=lt_of_cell (a:=⟨w.heap.size+1+1,0,none⟩) qo0;have hze3:=lC Ke;simp [Leaves,settle,results,Tryz.results63,go_sem,qo0,qo1,qo2,qo3,hze2,hze3,Ke.out.1];exact fres_fall 18 B.out (by omega) _ _
   ·have hr:makeS n1 l1 n2 l2=(redZ (zv n1 l1) (zv n2 l2),0):=(by unfold makeS; rw [h1,h2,if_neg (by simp),if_neg hl]);have hz:Hid (((l2.length:Int) == 0)=false):=(by rw [Hid,beq_eq_false_iff_ne]; omega);have hy:zv n2 l2≠0:=mt v2.zero.2 hl;have hR:Hid (∀ W,Sl W A1 l1 c1→Sl W A2 l2 c2→Calls Tryz.prog 116 #[.agg #[.bool n1,.slice A1 l1.length c1],.agg #[.bool n2,.slice A2 l2.length c2]] W (FRes1 (redZ (zv n1 l1) (zv n2 l2)) W)):=fun W a b=>reduce_any n1 n2 A1 A2 l1 l2 c1 c2 _ _ v1 v2 hy W a b;rw [hr];generalize redZ (zv n1 l1) (zv n2 l2)=r at *;obtain ⟨⟨np,lp⟩,⟨nq,lq⟩⟩:=r;clear hs1 hs2 hr h1 h2 v1 v2 hl hy;go_enter_defers Tryz.func63,Tryz.ntmps63
    go_wp2_with fail
    refine (wcheck_any _ _ _ _ _ ((((S1.out.alloc _).alloc _).alloc _).alloc _)).mono ?_;rw [e1.out];rintro e w1 ⟨rfl,hb⟩;replace S1:=kS4 S1 hb;replace S2:=kS4 S2 hb;have Fo:Hid (Ff w1 (w.heap.size+1+1)):=Ff.keep (Ff.keep (Ff.fresh (by simp) _ _) (Cf.fresh (by simp) _ _ _ _ _ _ _ _ _) (blw1 _ _)) (Cf.keep (Cf.fresh (by simp) _ _ _ _ _ _ _ _ _) (blw1 _ _)) hb;have Ka:Hid (Cw w1 w.heap.size n1 A1 l1.length c1):=Cw.keep (Cw.keep (Cw.keep (Cw.keep (Cw.fresh (by simp) _ _ _ _ _) (blw1 _ _)) (blw1 _ _)) (blw1 _ _)) hb;have Kb:Hid (Cw w1 (w.heap.size+1) n2 A2 l2.length c2):=Cw.keep (Cw.keep (Cw.keep (Cw.fresh (by simp) _ _ _ _ _) (blw1 _ _)) (blw1 _ _)) hb;have Ko:Hid (Cf w1 (w.heap.size+1+1) false none 0 0 false none 0 0):=Cf.keep (Cf.keep (Cf.fresh (by simp) _ _ _ _ _ _ _ _ _) (blw1 _ _)) hb;have Ke:Hid (C1 w1 (w.heap.size+1+1+1) (.int .i64 0)):=C1.keep (C1.fresh (by simp) _ _) hb;replace B:=kB4 B hb;clear hb;obtain ⟨qa0,qa1⟩:=Ka.out;obtain ⟨qb0,qb1⟩:=Kb.out;have hza:=lW Ka;have hzb:=lW Kb;have hzo:=lF Ko;have hze:=lC Ke;go_wp2_with fail
    refine (want_ok _).mono ?_;rintro e w2 ⟨rfl,hb⟩;clear qa0 qa1 qb0 qb1;replace S1:=kS S1 hb;replace S2:=kS S2 hb;replace Fo:=kFf Fo Ko hb;replace Ka:=kW Ka hb;replace Kb:=kW Kb hb;replace Ko:=kF Ko hb;replace Ke:=kC Ke hb;replace B:=kB B hb;clear hb;obtain ⟨qa0,qa1⟩:=Ka.out;obtain ⟨qb0,qb1⟩:=Kb.out;replace hza:=lW Ka;replace hzb:=lW Kb;replace hzo:=lF Ko;replace hze:=lC Ke;go_wp2_with fail
    refine (wcheck_any _ _ _ _ _ S2.out).mono ?_;rw [e2.out];rintro e w3 ⟨rfl,hb⟩;clear qa0 qa1 qb0 qb1;replace S1:=kS S1 hb;replace S2:=kS S2 hb;replace Fo:=kFf Fo Ko hb;replace Ka:=kW Ka hb;replace Kb:=kW Kb hb;replace Ko:=kF Ko hb;replace Ke:=kC Ke hb;replace B:=kB B hb;clear hb;obtain ⟨qa0,qa1⟩:=Ka.out;obtain ⟨qb0,qb1⟩:=Kb.out;replace hza:=lW Ka;replace hzb:=lW Kb;replace hzo:=lF Ko;replace hze:=lC Ke;go_wp2_with fail
    refine (want_ok _).mono ?_;rintro e w4 ⟨rfl,hb⟩;clear qa0 qa1 qb0 qb1;replace S1:=kS S1 hb;replace S2:=kS S2 hb;replace Fo:=kFf Fo Ko hb;replace Ka:=kW Ka hb;replace Kb:=kW Kb hb;replace Ko:=kF Ko hb;replace Ke:=kC Ke hb;replace B:=kB B hb;clear hb;obtain ⟨qa0,qa1⟩:=Ka.out;obtain ⟨qb0,qb1⟩:=Kb.out;replace hza:=lW Ka;replace hzb:=lW Kb;replace hzo:=lF Ko;replace hze:=lC Ke;go_wp2_with fail
    refine (zero_any n2 A2 l2 c2 _).mono ?_;rw [hz.out];rintro e w5 ⟨rfl,hb⟩;clear qa0 qa1 qb0 qb1;replace S1:=kS S1 hb;replace S2:=kS S2 hb;replace Fo:=kFf Fo Ko hb;replace Ka:=kW Ka hb;replace Kb:=kW Kb hb;replace Ko:=kF Ko hb;replace Ke:=kC Ke hb;replace B:=kB B hb;clear hb;obtain ⟨qa0,qa1⟩:=Ka.out;obtain ⟨qb0,qb1⟩:=Kb.out;replace hza:=lW Ka;replace hzb:=lW Kb;replace hzo:=lF Ko;replace hze:=lC Ke;go_wp2_with fail
    refine (hR.out _ S1.out S2.out).mono ?_;rintro e w6 ⟨A',c',A'',c'',rfl,hsp,hsq,hb⟩;clear qa0 qa1 qb0 qb1;replace S1:=kS S1 hb;replace S2:=kS S2 hb;replace Fo:=kFf Fo Ko hb;replace Ka:=kW Ka hb;replace Kb:=kW Kb hb;replace Ko:=kF Ko hb;replace Ke:=kC Ke hb;replace B:=kB B hb;clear hb;(try dsimp only at hsp hsq);have Sp:Hid (Sl w6 A' lp c'):=hsp;clear hsp;have Sq:Hid (Sl w6 A'' lq c''):=hsq;clear hsq;obtain ⟨qo0,qo1,qo2,qo3⟩:=Ko.out;obtain ⟨fo0,fo1,fo2,fo3⟩:=Fo.out;obtain ⟨qe0,qe1⟩:=Ke.out;replace hza:=lW Ka;replace hzb:=lW Kb;replace hzo:=lF Ko;replace hze:=lC Ke;(try dsimp only);go_wp2_with fail
    refine leaves_cons (f:=73) (args:=#[.pointer (some ⟨w.heap.size+1+1+1,0,none⟩)]) (by simp) (by simp [go_sem]) ?_;refine (catch_idle ⟨w.heap.size+1+1+1,0,none⟩ _).mono ?_;rintro e u' w'' ⟨rfl,rfl,rfl⟩;simp [Leaves,settle,results,Tryz.results63,go_sem,qo0,qo1,qo2,qo3,qe0];exact fres_store (r:=((np,lp),(nq,lq))) 0 Sp.out Sq.out Ko.out Ke.out (by omega) B.out (by omega) (by omega) _ _ _ _ _
end Go.Proofs.YtgnjhlnolihgcaaGreat
namespace Go.Proofs.YtgnjhlnolihgcaaGreat
open Lib renaming hid → lh
open Go.RowKit
attribute [local go_sem ↓] Go.wp_at_zero Go.wp_at_succ
theorem fit_i64 {n:Int} (h1 : -9223372036854775808≤n) (h2:n≤9223372036854775807):fitZ n:=q1q (k:=2) (by omega) (by omega)
theorem fres_store4 {r:(Bool × List Nat) × (Bool × List Nat)} {w w3:World} {g c c':Nat} {A A':Option Addr} {n1 n2:Bool} {A1 A2:Option Addr} {m1 c1 m2 c2:Nat} (k:Int) (hs:Sl w3 A r.1.2 c) (hs':Sl w3 A' r.2.2 c') (q:Cf w3 g n1 A1 m1 c1 n2 A2 m2 c2) (hb:Below w.heap.size w w3) (hg:w.heap.size≤g) (x y t u:Value) :
  FRes (r,k) w (.returned (.tuple #[.agg #[.bool r.1.1,.slice A r.1.2.length c,.bool r.2.1,.slice A' r.2.2.length c'],.int .i64 k])) ((((w3.setCell ⟨g,0,none⟩ x).setCell ⟨g,1,none⟩ y).setCell ⟨g,2,none⟩ t).setCell ⟨g,3,none⟩ u):=
 ⟨A,c,A',c',rfl,hs.setF q _ _ _ _,hs'.setF q _ _ _ _,q1a hb hg _ _ _ _⟩
theorem make_of {n m:Int} (h1 : -9223372036854775808≤n) (h2:n≤9223372036854775807) (h3 : -9223372036854775808≤m) (h4:m≤9223372036854775807):makeS (wOf n).1 (wOf n).2 (wOf m).1 (wOf m).2=ofS n m:=
 make_good (q0p (fit_i64 h1 h2)) (q0p (fit_i64 h3 h4))
theorem of_any (n m:Int) (h1 : -9223372036854775808≤n) (h2:n≤9223372036854775807) (h3 : -9223372036854775808≤m) (h4:m≤9223372036854775807) (w:World) :
  Calls Tryz.prog 31 #[.int .i64 n,.int .i64 m] w (FRes (ofS n m) w):=by
 have hm:=make_of h1 h2 h3 h4;obtain ⟨np,lp,hp⟩:∃ np lp,wOf n=(np,lp):=⟨_,_,rfl⟩;obtain ⟨nq,lq,hq⟩:∃ nq lq,wOf m=(nq,lq):=⟨_,_,rfl⟩;have F1:Hid (∀ W,Calls Tryz.prog 64 #[.int .i64 n] W (WRes1 (np,lp) W)):=fun W=>by rw [← hp]; exact q1k n W h1 h2
 have F2:Hid (∀ W,Calls Tryz.prog 64 #[.int .i64 m] W (WRes1 (nq,lq) W)):=fun W=>by rw [← hq]; exact q1k m W h3 h4
 rw [hp,hq] at hm;have Hm:Hid (makeS np lp nq lq=ofS n m):=hm;generalize ofS n m=r at *;obtain ⟨⟨⟨na,la⟩,⟨nb,lb⟩⟩,k⟩:=r;have B:Hid (Below w.heap.size w w):=Below.refl _ _;clear hm hp hq h1 h2 h3 h4;go_enter Tryz.func31,Tryz.ntmps31
 go_wp2_with fail
 refine (F1.out _).mono ?_;rintro e w1 ⟨A1,c1,rfl,hsp,hb⟩;have Fo:Hid (Ff w1 w.heap.size):=Ff.keep (Ff.fresh (by simp) _ _) (Cf.fresh (by simp) _ _ _ _ _ _ _ _ _) hb;have Ko:Hid (Cf w1 w.heap.size false none 0 0 false none 0 0):=Cf.keep (Cf.fresh (by simp) _ _ _ _ _ _ _ _ _) hb;replace B:=kB1 B hb;clear hb;(try dsimp only at hsp);(try dsimp only);have Sp:Hid (Sl w1 A1 lp c1):=hsp;clear hsp;have hzo:=lF Ko;go_wp2_with fail
 refine (F2.out _).mono ?_;rintro e w2 ⟨A2,c2,rfl,hsq,hb⟩;replace Sp:=kS Sp hb;replace Fo:=kFf Fo Ko hb;replace Ko:=kF Ko hb;replace B:=kB B hb;clear hb;(try dsimp only at hsq);(try dsimp only);have Sq:Hid (Sl w2 A2 lq c2):=hsq;clear hsq;replace hzo:=lF Ko;go_wp2_with fail
 refine (make_any np nq _ _ lp lq _ _ _ Sp.out Sq.out).mono ?_;rw [Hm.out];rintro e w3 ⟨A3,c3,A4,c4,rfl,hsa,hsb,hb⟩;replace Sp:=kS Sp hb;replace Sq:=kS Sq hb;replace Fo:=kFf Fo Ko hb;replace Ko:=kF Ko hb;replace B:=kB B hb;clear hb;(try dsimp only at hsa hsb);(try dsimp only);have Sa:Hid (Sl w3 A3 la c3):=hsa;clear hsa;have Sb:Hid (Sl w3 A4 lb c4):=hsb;clear hsb;obtain ⟨qo0,qo1,qo2,qo3⟩:=Ko.out;obtain ⟨fo0,fo1,fo2,fo3⟩:=Fo.out;replace hzo:=lF Ko;go_wp2_with fail
 exact bodyPost_ret (v:=.tuple #[.agg #[.bool na,.slice A3 la.length c3,.bool nb,.slice A4 lb.length c4],.int .i64 k]) (by simp [results,Tryz.results31,go_sem,qo0,qo1,qo2,qo3]) rfl (fres_store4 (r:=((na,la),(nb,lb))) k Sa.out Sb.out Ko.out B.out (by omega) _ _ _ _)
theorem C1.new {w:World} {g:Nat} {v:Value} (h:C1 w g v) (u:Value):C1 (w.setCell ⟨g,0,none⟩ u) g u:=⟨World.cell?_setCell_same _ _ _ h.1,(World.frozen?_setCell _ _ _ _).trans h.2⟩
theorem C1.set1 {w:World} {g g':Nat} {v:Value} (h:C1 w g v) (hne:g≠g') (u:Value):C1 (w.setCell ⟨g',0,none⟩ u) g v:=⟨(World.cell?_setCell_other _ _ _ _ (by intro e; exact hne (congrArg Addr.block e).symm)).trans h.1,(World.frozen?_setCell _ _ _ _).trans h.2⟩
theorem Cf.set1 {w:World} {g g':Nat} {n1 n2:Bool} {A1 A2:Option Addr} {m1 c1 m2 c2:Nat} (h:Cf w g n1 A1 m1 c1 n2 A2 m2 c2) (hne:g≠g') (u:Value):Cf (w.setCell ⟨g',0,none⟩ u) g n1 A1 m1 c1 n2 A2 m2 c2:=by
 have k:∀ i,(w.setCell ⟨g',0,none⟩ u).cell? ⟨g,i,none⟩=w.cell? ⟨g,i,none⟩:=fun i=>World.cell?_setCell_other _ _ _ _ (by intro e; exact hne (congrArg Addr.block e).symm);exact ⟨(k 0).trans h.1,(k 1).trans h.2.1,(k 2).trans h.2.2.1,(k 3).trans h.2.2.2⟩
theorem Fw.set1 {w:World} {g g':Nat} (h:Fw w g) (u:Value):Fw (w.setCell ⟨g',0,none⟩ u) g:=⟨(World.frozen?_setCell _ _ _ _).trans h.1,(World.frozen?_setCell _ _ _ _).trans h.2⟩
theorem wres_fall {w w2:World} {g:Nat} (k:Int) (hb:Below w.heap.size w w2) (hg:w.heap.size≤g) (v:Value) (o:Obj) :
  WRes ((false,[]),k) w (.returned (.tuple #[.agg #[.bool false,.slice none 0 0],.int .i64 k])) ((w2.setCell ⟨g,0,none⟩ v).alloc o):=
 ⟨none,0,rfl,Sl.nil _ _ _,q0a (hb.setCell (p:=⟨g,0,none⟩) hg v) (blw1 _ _)⟩
end Go.Proofs.YtgnjhlnolihgcaaGreat
namespace Go.Proofs.YtgnjhlnolihgcaaGreat
open Lib renaming hid → lh
open Go.RowKit
attribute [local go_sem ↓] Go.wp_at_zero Go.wp_at_succ
theorem part_end {r:(Bool × List Nat) × (Bool × List Nat)} {w w3:World} {g c c':Nat} {A A':Option Addr} {n1 n2:Bool} {A1 A2:Option Addr} {m1 c1 m2 c2:Nat} (hs:Sl w3 A r.1.2 c) (hs':Sl w3 A' r.2.2 c') (q:Cf w3 g n1 A1 m1 c1 n2 A2 m2 c2) (hb:Below w.heap.size w w3) (hg:w.heap.size≤g) (x y z u:Value) (o:Obj) :
  FRes1 r w (.returned (.agg #[.bool r.1.1,.slice A r.1.2.length c,.bool r.2.1,.slice A' r.2.2.length c'])) (((((w3.setCell ⟨g,0,none⟩ x).setCell ⟨g,1,none⟩ y).setCell ⟨g,2,none⟩ z).setCell ⟨g,3,none⟩ u).alloc o):=
 ⟨A,c,A',c',rfl,(hs.setF q _ _ _ _).alloc _,(hs'.setF q _ _ _ _).alloc _,(q1a hb hg _ _ _ _).alloc (by have:=hb.size; simp [World.setCell]; omega) _⟩
end Go.Proofs.YtgnjhlnolihgcaaGreat
namespace Go.Proofs.YtgnjhlnolihgcaaGreat
open Lib renaming hid → lh
open Go.Lib
end Go.Proofs.YtgnjhlnolihgcaaGreat
namespace Go.Proofs.YtgnjhlnolihgcaaGreat
open Lib renaming hid → lh
open Go.RowKit
structure BxQ (w:World) (g:Nat) (q:Rat) (A:Option Addr) (c:Nat) (B:Option Addr) (d:Nat):Prop where
 k:Cf w g (frQ q).1.1 A (frQ q).1.2.length c (frQ q).2.1 B (frQ q).2.2.length d
 f:Ff w g
 s:Sl w A (frQ q).1.2 c
 t:Sl w B (frQ q).2.2 d
section
variable {w w':World} {g g':Nat} {p q:Rat} {A B A' B':Option Addr} {c d c' d':Nat}
theorem BxQ.keep (h:BxQ w g q A c B d) (hb:Below w.heap.size w w'):BxQ w' g q A c B d:=⟨h.k.keep hb,h.f.keep h.k hb,h.s.below hb,h.t.below hb⟩
theorem BxQ.drew (h:BxQ w g q A c B d):BxQ w.drew g q A c B d:=⟨h.k,h.f,h.s.drew,h.t.drew⟩
theorem BxQ.alloc (h:BxQ w g q A c B d) (o:Obj):BxQ (w.alloc o) g q A c B d:=h.keep (blw1 w o)
theorem BxQ.fresh (hg:g=w.heap.size) (s:Sl w A (frQ q).1.2 c) (t:Sl w B (frQ q).2.2 d):BxQ (w.alloc (.cells #[.bool (frQ q).1.1,.slice A (frQ q).1.2.length c,.bool (frQ q).2.1,.slice B (frQ q).2.2.length d] 48)) g q A c B d:=
 ⟨Cf.fresh hg _ _ _ _ _ _ _ _ _,Ff.fresh hg _ _,s.alloc _,t.alloc _⟩
theorem BxQ.lt (h:BxQ w g q A c B d):g < w.heap.size:=lt_of_cell (a:=⟨g,0,none⟩) h.k.1
theorem BxQ.far (h:BxQ w g q A c B d) {n1 n2:Bool} {A1 A2:Option Addr} {m1 c1 m2 c2:Nat} (k:Cf w g' n1 A1 m1 c1 n2 A2 m2 c2) (hne:g≠g') (x y z u:Value):BxQ (((((w).setCell ⟨g',0,none⟩ (x)).setCell ⟨g',1,none⟩ (y)).setCell ⟨g',2,none⟩ (z)).setCell ⟨g',3,none⟩ (u)) g q A c B d:=
 ⟨h.k.farF hne x y z u,h.f.putF x y z u,h.s.setF k x y z u,h.t.setF k x y z u⟩
theorem BxQ.put {n1 n2:Bool} {A1 A2:Option Addr} {m1 c1 m2 c2:Nat} (k:Cf w g n1 A1 m1 c1 n2 A2 m2 c2) (f:Ff w g) (s:Sl w A (frQ q).1.2 c) (t:Sl w B (frQ q).2.2 d):BxQ (((((w).setCell ⟨g,0,none⟩ (.bool (frQ q).1.1)).setCell ⟨g,1,none⟩ (.slice A (frQ q).1.2.length c)).setCell ⟨g,2,none⟩ (.bool (frQ q).2.1)).setCell ⟨g,3,none⟩ (.slice B (frQ q).2.2.length d)) g q A c B d:=
 ⟨k.newF,f.putF _ _ _ _,s.setF k _ _ _ _,t.setF k _ _ _ _⟩
theorem BxQ.below {a:World} {b:Nat} (hb:Below b a w) (hg:b≤g) (x y z u:Value):Below b a (((((w).setCell ⟨g,0,none⟩ (x)).setCell ⟨g,1,none⟩ (y)).setCell ⟨g,2,none⟩ (z)).setCell ⟨g,3,none⟩ (u)):=q1a hb hg x y z u
end
def F2Res (p q:Rat) (w:World):Ending→World→Prop:=fun e w'=>
 ∃ A1 c1 B1 d1 A2 c2 B2 d2,e=.returned (.tuple #[.agg #[.bool (frQ p).1.1,.slice A1 (frQ p).1.2.length c1,.bool (frQ p).2.1,.slice B1 (frQ p).2.2.length d1],.agg #[.bool (frQ q).1.1,.slice A2 (frQ q).1.2.length c2,.bool (frQ q).2.1,.slice B2 (frQ q).2.2.length d2]])∧Sl w' A1 (frQ p).1.2 c1∧Sl w' B1 (frQ p).2.2 d1∧Sl w' A2 (frQ q).1.2 c2∧Sl w' B2 (frQ q).2.2 d2∧Below w.heap.size w w'
structure CL (w X:World) (y p q:Rat) (A:Option Addr) (c:Nat) (B:Option Addr) (d:Nat) (A1:Option Addr) (c1:Nat) (B1:Option Addr) (d1:Nat) (A2:Option Addr) (c2:Nat) (B2:Option Addr) (d2:Nat):Prop where
 x:BxQ X w.heap.size y A c B d
 u:BxQ X (w.heap.size+1) p A1 c1 B1 d1
 v:BxQ X (w.heap.size+2) q A2 c2 B2 d2
 hb:Below w.heap.size w X
section
variable {w X V:World} {y p q r:Rat} {A B A1 B1 A2 B2 A3 B3:Option Addr} {c d c1 d1 c2 d2 c3 d3:Nat}
theorem CL.held (h:CL w X y p q A c B d A1 c1 B1 d1 A2 c2 B2 d2):X.cell? ⟨w.heap.size,0,none⟩=some (.bool (frQ y).1.1)∧X.cell? ⟨w.heap.size,1,none⟩=some (.slice A (frQ y).1.2.length c)∧X.cell? ⟨w.heap.size,2,none⟩=some (.bool (frQ y).2.1)∧X.cell? ⟨w.heap.size,3,none⟩=some (.slice B (frQ y).2.2.length d)∧X.cell? ⟨w.heap.size+1,0,none⟩=some (.bool (frQ p).1.1)∧X.cell? ⟨w.heap.size+1,1,none⟩=some (.slice A1 (frQ p).1.2.length c1)∧X.cell? ⟨w.heap.size+1,2,none⟩=some (.bool (frQ p).2.1)∧X.cell? ⟨w.heap.size+1,3,none⟩=some (.slice B1 (frQ p).2.2.length d1)∧X.cell? ⟨w.heap.size+2,0,none⟩=some (.bool (frQ q).1.1)∧X.cell? ⟨w.heap.size+2,1,none⟩=some (.slice A2 (frQ q).1.2.length c2)∧X.cell? ⟨w.heap.size+2,2,none⟩=some (.bool (frQ q).2.1)∧X.cell? ⟨w.heap.size+2,3,none⟩=some (.slice B2 (frQ q).2.2.length d2):=⟨h.x.k.1,h.x.k.2.1,h.x.k.2.2.1,h.x.k.2.2.2,h.u.k.1,h.u.k.2.1,h.u.k.2.2.1,h.u.k.2.2.2,h.v.k.1,h.v.k.2.1,h.v.k.2.2.1,h.v.k.2.2.2⟩
theorem CL.call (h:CL w X y p q A c B d A1 c1 B1 d1 A2 c2 B2 d2) (hb:Below X.heap.size X V):CL w V y p q A c B d A1 c1 B1 d1 A2 c2 B2 d2:=⟨h.x.keep hb,h.u.keep hb,h.v.keep hb,q0a h.hb hb⟩
theorem CL.drew (h:CL w X y p q A c B d A1 c1 B1 d1 A2 c2 B2 d2):CL w X.drew y p q A c B d A1 c1 B1 d1 A2 c2 B2 d2:=⟨h.x.drew,h.u.drew,h.v.drew,h.hb.drew⟩
theorem CL.cells (h:CL w X y p q A c B d A1 c1 B1 d1 A2 c2 B2 d2):X.cell? ⟨w.heap.size,0,none⟩=some (.bool (frQ y).1.1)∧X.cell? ⟨w.heap.size,1,none⟩=some (.slice A (frQ y).1.2.length c)∧X.cell? ⟨w.heap.size,2,none⟩=some (.bool (frQ y).2.1)∧X.cell? ⟨w.heap.size,3,none⟩=some (.slice B (frQ y).2.2.length d)∧X.cell? ⟨w.heap.size+1,0,none⟩=some (.bool (frQ p).1.1)∧X.cell? ⟨w.heap.size+1,1,none⟩=some (.slice A1 (frQ p).1.2.length c1)∧X.cell? ⟨w.heap.size+1,2,none⟩=some (.bool (frQ p).2.1)∧X.cell? ⟨w.heap.size+1,3,none⟩=some (.slice B1 (frQ p).2.2.length d1)∧X.cell? ⟨w.heap.size+2,0,none⟩=some (.bool (frQ q).1.1)∧X.cell? ⟨w.heap.size+2,1,none⟩=some (.slice A2 (frQ q).1.2.length c2)∧X.cell? ⟨w.heap.size+2,2,none⟩=some (.bool (frQ q).2.1)∧X.cell? ⟨w.heap.size+2,3,none⟩=some (.slice B2 (frQ q).2.2.length d2)∧X.frozen? ⟨w.heap.size+1,0,none⟩=false∧X.frozen? ⟨w.heap.size+1,1,none⟩=false∧X.frozen? ⟨w.heap.size+1,2,none⟩=false∧X.frozen? ⟨w.heap.size+1,3,none⟩=false∧X.frozen? ⟨w.heap.size+2,0,none⟩=false∧X.frozen? ⟨w.heap.size+2,1,none⟩=false∧X.frozen? ⟨w.heap.size+2,2,none⟩=false∧X.frozen? ⟨w.heap.size+2,3,none⟩=false:=⟨h.x.k.1,h.x.k.2.1,h.x.k.2.2.1,h.x.k.2.2.2,h.u.k.1,h.u.k.2.1,h.u.k.2.2.1,h.u.k.2.2.2,h.v.k.1,h.v.k.2.1,h.v.k.2.2.1,h.v.k.2.2.2,h.u.f.1,h.u.f.2.1,h.u.f.2.2.1,h.u.f.2.2.2,h.v.f.1,h.v.f.2.1,h.v.f.2.2.1,h.v.f.2.2.2⟩
theorem CL.step (h:CL w X y p q A c B d A1 c1 B1 d1 A2 c2 B2 d2) (s:Sl X A3 (frQ r).1.2 c3) (t:Sl X B3 (frQ r).2.2 d3) :
  CL w (((((((((X).setCell ⟨w.heap.size+1,0,none⟩ (.bool (frQ r).1.1)).setCell ⟨w.heap.size+1,1,none⟩ (.slice A3 (frQ r).1.2.length c3)).setCell ⟨w.heap.size+1,2,none⟩ (.bool (frQ r).2.1)).setCell ⟨w.heap.size+1,3,none⟩ (.slice B3 (frQ r).2.2.length d3)).setCell ⟨w.heap.size+2,0,none⟩ (.bool (frQ p).1.1)).setCell ⟨w.heap.size+2,1,none⟩ (.slice A1 (frQ p).1.2.length c1)).setCell ⟨w.heap.size+2,2,none⟩ (.bool (frQ p).2.1)).setCell ⟨w.heap.size+2,3,none⟩ (.slice B1 (frQ p).2.2.length d1)) y r p A c B d A3 c3 B3 d3 A1 c1 B1 d1:=
 ⟨(h.x.far h.u.k (by omega) _ _ _ _).far (h.v.far h.u.k (by omega) _ _ _ _).k (by omega) _ _ _ _,(BxQ.put h.u.k h.u.f s t).far (h.v.far h.u.k (by omega) _ _ _ _).k (by omega) _ _ _ _,
  BxQ.put (h.v.far h.u.k (by omega) _ _ _ _).k (h.v.far h.u.k (by omega) _ _ _ _).f (h.u.s.setF h.u.k _ _ _ _) (h.u.t.setF h.u.k _ _ _ _),BxQ.below (BxQ.below h.hb (by omega) _ _ _ _) (by omega) _ _ _ _⟩
theorem CL.same (h:CL w X y p q A c B d A1 c1 B1 d1 A2 c2 B2 d2) :
  CL w (((((((((X).setCell ⟨w.heap.size+1,0,none⟩ (.bool (frQ p).1.1)).setCell ⟨w.heap.size+1,1,none⟩ (.slice A1 (frQ p).1.2.length c1)).setCell ⟨w.heap.size+1,2,none⟩ (.bool (frQ p).2.1)).setCell ⟨w.heap.size+1,3,none⟩ (.slice B1 (frQ p).2.2.length d1)).setCell ⟨w.heap.size+2,0,none⟩ (.bool (frQ q).1.1)).setCell ⟨w.heap.size+2,1,none⟩ (.slice A2 (frQ q).1.2.length c2)).setCell ⟨w.heap.size+2,2,none⟩ (.bool (frQ q).2.1)).setCell ⟨w.heap.size+2,3,none⟩ (.slice B2 (frQ q).2.2.length d2)) y p q A c B d A1 c1 B1 d1 A2 c2 B2 d2:=
 ⟨(h.x.far h.u.k (by omega) _ _ _ _).far (h.v.far h.u.k (by omega) _ _ _ _).k (by omega) _ _ _ _,(BxQ.put h.u.k h.u.f h.u.s h.u.t).far (h.v.far h.u.k (by omega) _ _ _ _).k (by omega) _ _ _ _,
  BxQ.put (h.v.far h.u.k (by omega) _ _ _ _).k (h.v.far h.u.k (by omega) _ _ _ _).f (h.v.s.setF h.u.k _ _ _ _) (h.v.t.setF h.u.k _ _ _ _),BxQ.below (BxQ.below h.hb (by omega) _ _ _ _) (by omega) _ _ _ _⟩
theorem CL.init (k:BxQ X w.heap.size y A c B d) (ku:Cf X (w.heap.size+1) false none 0 0 false none 0 0) (fu:Ff X (w.heap.size+1)) (kv:Cf X (w.heap.size+2) false none 0 0 false none 0 0) (fv:Ff X (w.heap.size+2)) (hb:Below w.heap.size w X)
  (s1:Sl X A1 (frQ p).1.2 c1) (t1:Sl X B1 (frQ p).2.2 d1) (s2:Sl X A2 (frQ q).1.2 c2) (t2:Sl X B2 (frQ q).2.2 d2) :
  CL w (((((((((X).setCell ⟨w.heap.size+1,0,none⟩ (.bool (frQ p).1.1)).setCell ⟨w.heap.size+1,1,none⟩ (.slice A1 (frQ p).1.2.length c1)).setCell ⟨w.heap.size+1,2,none⟩ (.bool (frQ p).2.1)).setCell ⟨w.heap.size+1,3,none⟩ (.slice B1 (frQ p).2.2.length d1)).setCell ⟨w.heap.size+2,0,none⟩ (.bool (frQ q).1.1)).setCell ⟨w.heap.size+2,1,none⟩ (.slice A2 (frQ q).1.2.length c2)).setCell ⟨w.heap.size+2,2,none⟩ (.bool (frQ q).2.1)).setCell ⟨w.heap.size+2,3,none⟩ (.slice B2 (frQ q).2.2.length d2)) y p q A c B d A1 c1 B1 d1 A2 c2 B2 d2:=
 ⟨(k.far ku (by omega) _ _ _ _).far (kv.farF (by omega) _ _ _ _) (by omega) _ _ _ _,(BxQ.put ku fu s1 t1).far (kv.farF (by omega) _ _ _ _) (by omega) _ _ _ _,
  BxQ.put (kv.farF (by omega) _ _ _ _) (fv.putF _ _ _ _) (s2.setF ku _ _ _ _) (t2.setF ku _ _ _ _),BxQ.below (BxQ.below hb (by omega) _ _ _ _) (by omega) _ _ _ _⟩
theorem CL.res (h:CL w X y p q A c B d A1 c1 B1 d1 A2 c2 B2 d2):F2Res p q w (.returned (.tuple #[.agg #[.bool (frQ p).1.1,.slice A1 (frQ p).1.2.length c1,.bool (frQ p).2.1,.slice B1 (frQ p).2.2.length d1],.agg #[.bool (frQ q).1.1,.slice A2 (frQ q).1.2.length c2,.bool (frQ q).2.1,.slice B2 (frQ q).2.2.length d2]])) X:=
 ⟨A1,c1,B1,d1,A2,c2,B2,d2,rfl,h.u.s,h.u.t,h.v.s,h.v.t,h.hb⟩
end
end Go.Proofs.YtgnjhlnolihgcaaGreat
namespace Go.Proofs.YtgnjhlnolihgcaaGreat
open Lib renaming hid → lh
open Go.RowKit
def ivLo (q:Rat):Int:=(q.num * 1099511627776).fdiv q.den
def ivRem (q:Rat):Int:=(q.num * 1099511627776).fmod q.den
def ivHi (q:Rat):Int:=if ivRem q=0 then ivLo q else ivLo q+1
def ivS (q:Rat):Int × Int × Int:=if ivLo q < -2305843009213693952∨2305843009213693952 < ivHi q then (0,0,16) else (ivLo q,ivHi q,0)
section
variable {N d:Int}
theorem dm_less (hd:0 < d) (h:N.fmod d+N.fmod d < d):(N * 2).fdiv d=2 * N.fdiv d∧(N * 2).fmod d=N.fmod d+N.fmod d:=by
 obtain ⟨h1,h2,h3⟩:=dm_parts (x:=N) hd;have:=div_uniq (x:=N * 2) (y:=d) (q:=2 * N.fdiv d) (r:=N.fmod d+N.fmod d) (by omega) (by grind) ⟨fun _=>by omega,fun h=>by omega⟩;exact ⟨this.1.symm,this.2.symm⟩
theorem dm_more (hd:0 < d) (h:¬ N.fmod d+N.fmod d < d):(N * 2).fdiv d=2 * N.fdiv d+1∧(N * 2).fmod d=N.fmod d - (d - N.fmod d):=by
 obtain ⟨h1,h2,h3⟩:=dm_parts (x:=N) hd;have:=div_uniq (x:=N * 2) (y:=d) (q:=2 * N.fdiv d+1) (r:=N.fmod d - (d - N.fmod d)) (by omega) (by grind) ⟨fun _=>by omega,fun h=>by omega⟩;exact ⟨this.1.symm,this.2.symm⟩
theorem dm_pow (hd:0 < d) (m:Nat):N.fdiv d * 2 ^ m≤(N * 2 ^ m).fdiv d∧(N * 2 ^ m).fdiv d < (N.fdiv d+1) * 2 ^ m:=by
 induction m with
 | zero=>simp; omega
 | succ m ih=>
  have e:N * 2 ^ (m+1)=N * 2 ^ m * 2:=(by rw [Int.pow_succ,← Int.mul_assoc]);have e1:N.fdiv d * 2 ^ (m+1)=N.fdiv d * 2 ^ m * 2:=(by rw [Int.pow_succ,← Int.mul_assoc]);have e2:(N.fdiv d+1) * 2 ^ (m+1)=(N.fdiv d+1) * 2 ^ m * 2:=(by rw [Int.pow_succ,← Int.mul_assoc]);rw [e,e1,e2];by_cases h:(N * 2 ^ m).fmod d+(N * 2 ^ m).fmod d < d
  ·rw [(dm_less hd h).1]; omega
  ·rw [(dm_more hd h).1]; omega
end
def ivB (q:Rat) (e:Nat):Int:=(q.num * 2 ^ (40 - e)).fdiv q.den * 2 ^ e
def ivR (q:Rat) (e:Nat):Int:=(q.num * 2 ^ (40 - e)).fmod q.den
theorem ivB_full (q:Rat):ivB q 40=q.num.fdiv q.den * 1099511627776∧ivR q 40=q.num.fmod q.den:=by
 unfold ivB ivR; simp
theorem ivB_none (q:Rat):ivB q 0=ivLo q∧ivR q 0=ivRem q:=by
 unfold ivB ivR ivLo ivRem; simp
theorem ivR_bd (q:Rat) (e:Nat):0≤ivR q e∧ivR q e < q.den:=by
 have:=dm_parts (x:=q.num * 2 ^ (40 - e)) (q0t q);exact ⟨this.1,this.2.1⟩
theorem iv_less {q:Rat} {e:Nat} (he:0 < e) (h40:e≤40) (h:ivR q e+ivR q e < q.den):ivB q (e - 1)=ivB q e∧ivR q (e - 1)=ivR q e+ivR q e:=by
 obtain ⟨f,rfl⟩:∃ f,e=f+1:=⟨e - 1,by omega⟩;unfold ivB ivR at *;have e1:q.num * 2 ^ (40 - f)=q.num * 2 ^ (40 - (f+1)) * 2:=(by rw [show 40 - f=(40 - (f+1))+1 by omega,Int.pow_succ,← Int.mul_assoc]);rw [Nat.add_sub_cancel,e1];obtain ⟨h1,h2⟩:=dm_less (q0t q) h;rw [h1,h2,Int.pow_succ];exact ⟨by grind,rfl⟩
theorem iv_more {q:Rat} {e:Nat} (he:0 < e) (h40:e≤40) (h:¬ ivR q e+ivR q e < q.den):ivB q (e - 1)=ivB q e+2 ^ (e - 1)∧ivR q (e - 1)=ivR q e - (q.den - ivR q e):=by
 obtain ⟨f,rfl⟩:∃ f,e=f+1:=⟨e - 1,by omega⟩;unfold ivB ivR at *;have e1:q.num * 2 ^ (40 - f)=q.num * 2 ^ (40 - (f+1)) * 2:=(by rw [show 40 - f=(40 - (f+1))+1 by omega,Int.pow_succ,← Int.mul_assoc]);rw [Nat.add_sub_cancel,e1];obtain ⟨h1,h2⟩:=dm_more (q0t q) h;rw [h1,h2,Int.pow_succ];exact ⟨by grind,rfl⟩
theorem ivB_bd {q:Rat} {e:Nat} (h40:e≤40) (h1 : -2097152≤q.num.fdiv q.den) (h2:q.num.fdiv q.den≤2097152) : -2305843009213693952≤ivB q e∧ivB q e≤2305844108725321728:=by
 obtain ⟨a,b⟩:=dm_pow (N:=q.num) (q0t q) (40 - e);have hp:(2:Int) ^ (40 - e) * 2 ^ e=1099511627776:=(by rw [← Int.pow_add,Nat.sub_add_cancel h40]; rfl);have h3:(0:Int) < 2 ^ e:=Int.pow_pos (by omega);have a2:=Int.mul_le_mul_of_nonneg_right a (Int.le_of_lt h3);have b2:=Int.mul_le_mul_of_nonneg_right (Int.le_of_lt b) (Int.le_of_lt h3);rw [Int.mul_assoc,hp] at a2 b2;unfold ivB;omega
theorem iv_out {q:Rat} (h:q.num.fdiv q.den < -2097152∨2097152 < q.num.fdiv q.den):ivS q=(0,0,16):=by
 have hd:=q0t q;obtain ⟨a,b⟩:=dm_pow (N:=q.num) hd 40;have e:(2:Int) ^ 40=1099511627776:=(by decide);rw [e] at a b;unfold ivS;rw [if_pos];have hl:ivLo q=(q.num * 1099511627776).fdiv q.den:=rfl;have hh:ivLo q≤ivHi q:=(by unfold ivHi; split <;> omega);rw [← hl] at a b;omega
structure BxW (w:World) (g:Nat) (z:Int) (A:Option Addr) (c:Nat):Prop where
 k:Cw w g (wOf z).1 A (wOf z).2.length c
 f:Fw w g
 s:Sl w A (wOf z).2 c
section
variable {w w':World} {g g':Nat} {z x:Int} {A A':Option Addr} {c c':Nat}
theorem BxW.keep (h:BxW w g z A c) (hb:Below w.heap.size w w'):BxW w' g z A c:=⟨h.k.keep hb,h.f.keep h.k hb,h.s.below hb⟩
theorem BxW.fresh (hg:g=w.heap.size) (s:Sl w A (wOf z).2 c):BxW (w.alloc (.cells #[.bool (wOf z).1,.slice A (wOf z).2.length c] 46)) g z A c:=⟨Cw.fresh hg _ _ _ _ _,Fw.fresh hg _ _,s.alloc _⟩
theorem BxW.lt (h:BxW w g z A c):g < w.heap.size:=lt_of_cell (a:=⟨g,0,none⟩) h.k.1
theorem BxW.put (h:BxW w g z A c) (s:Sl w A' (wOf x).2 c'):BxW ((w.setCell ⟨g,0,none⟩ (.bool (wOf x).1)).setCell ⟨g,1,none⟩ (.slice A' (wOf x).2.length c')) g x A' c':=⟨h.k.new,h.f.setW _ _,s.setC h.k _ _⟩
theorem BxQ.farW {q:Rat} {B:Option Addr} {d:Nat} (h:BxQ w g q A c B d) {n:Bool} {A1:Option Addr} {m1 c1:Nat} (k:Cw w g' n A1 m1 c1) (hne:g≠g') (x y:Value):BxQ ((w.setCell ⟨g',0,none⟩ x).setCell ⟨g',1,none⟩ y) g q A c B d:=
 ⟨h.k.setW hne x y,h.f.setW x y,h.s.setC k x y,h.t.setC k x y⟩
end
def IvRes (r:Int × Int × Int) (w:World):Ending→World→Prop:=fun e w'=>e=.returned (.tuple #[.agg #[.int .i64 r.1,.int .i64 r.2.1],.int .i64 r.2.2])∧Below w.heap.size w w'
structure SO (w X:World) (gr:Nat) (q:Rat) (A:Option Addr) (c:Nat) (B:Option Addr) (d:Nat) (r:Int) (A1:Option Addr) (c1:Nat):Prop where
 x:BxQ X w.heap.size q A c B d
 o:BlkV X (w.heap.size+1) 37 #[.int .i64 0,.int .i64 0]
 r:BxW X gr r A1 c1
 hg:w.heap.size+1 < gr
 hb:Below w.heap.size w X
section
variable {w X V:World} {gr:Nat} {q:Rat} {A B A1 A2:Option Addr} {c d c1 c2:Nat} {r z:Int}
theorem SO.call (h:SO w X gr q A c B d r A1 c1) (hb:Below X.heap.size X V):SO w V gr q A c B d r A1 c1:=⟨h.x.keep hb,h.o.keep hb,h.r.keep hb,h.hg,q0a h.hb hb⟩
theorem SO.put (h:SO w X gr q A c B d r A1 c1) (s:Sl X A2 (wOf z).2 c2):SO w ((X.setCell ⟨gr,0,none⟩ (.bool (wOf z).1)).setCell ⟨gr,1,none⟩ (.slice A2 (wOf z).2.length c2)) gr q A c B d z A2 c2:=
 ⟨h.x.farW h.r.k (by have:=h.hg; omega) _ _,(h.o.far (p:=⟨gr,0,none⟩) (by have:=h.hg; show w.heap.size+1≠gr; omega) _).far (p:=⟨gr,1,none⟩) (by have:=h.hg; show w.heap.size+1≠gr; omega) _,h.r.put s,h.hg,q0c h.hb (by have:=h.hg; omega) _ _⟩
theorem SO.cells (h:SO w X gr q A c B d r A1 c1):X.cell? ⟨w.heap.size,0,none⟩=some (.bool (frQ q).1.1)∧X.cell? ⟨w.heap.size,1,none⟩=some (.slice A (frQ q).1.2.length c)∧X.cell? ⟨w.heap.size,2,none⟩=some (.bool (frQ q).2.1)∧X.cell? ⟨w.heap.size,3,none⟩=some (.slice B (frQ q).2.2.length d) ∧
  X.cell? ⟨w.heap.size+1,0,none⟩=some (.int .i64 0)∧X.cell? ⟨w.heap.size+1,1,none⟩=some (.int .i64 0)∧X.frozen? ⟨w.heap.size+1,0,none⟩=false∧X.frozen? ⟨w.heap.size+1,1,none⟩=false ∧
  X.cell? ⟨gr,0,none⟩=some (.bool (wOf r).1)∧X.cell? ⟨gr,1,none⟩=some (.slice A1 (wOf r).2.length c1)∧X.frozen? ⟨gr,0,none⟩=false∧X.frozen? ⟨gr,1,none⟩=false∧gr < X.heap.size:=
 ⟨h.x.k.1,h.x.k.2.1,h.x.k.2.2.1,h.x.k.2.2.2,h.o.at_ 0 rfl,h.o.at_ 1 rfl,h.o.frozen 0,h.o.frozen 1,h.r.k.1,h.r.k.2,h.r.f.1,h.r.f.2,h.r.lt⟩
theorem SO.fin (h:SO w X gr q A c B d r A1 c1) (x y:Value):Below w.heap.size w ((X.setCell ⟨w.heap.size+1,0,none⟩ x).setCell ⟨w.heap.size+1,1,none⟩ y):=q0c h.hb (Nat.le_succ _) x y
end
end Go.Proofs.YtgnjhlnolihgcaaGreat
namespace Go.Proofs.YtgnjhlnolihgcaaGreat
open Lib renaming hid → lh
theorem den_mul (q:Rat):q * (((q.den:Nat):Int):Rat)=(q.num:Rat):=by
 have h1:=Rat.num_divInt_den q;rw [Rat.divInt_eq_div] at h1
 have hd:(((q.den:Nat):Int):Rat)≠0:=by
  intro h;have:((q.den:Nat):Int)=0:=(by exact_mod_cast h);have:=q.den_pos;omega
 have h2:=Rat.div_mul_cancel (a:=(q.num:Rat)) hd;rw [h1] at h2;exact h2
theorem ivLo_floor (q:Rat):ivLo q=(q * 1099511627776).floor:=by
 have key:∀ z:Int,z≤ivLo q ↔ z≤(q * 1099511627776).floor:=fun z=>by
  rw [Rat.le_floor_iff];have hd:=q0t q;have h0:=den_mul q;obtain ⟨r1,r2,r3⟩:=dm_parts (x:=q.num * 1099511627776) hd;have hdR:(0:Rat) < (((q.den:Nat):Int):Rat):=by exact_mod_cast hd
  have e1:(z:Rat)≤q * 1099511627776 ↔ z * ((q.den:Nat):Int)≤q.num * 1099511627776:=by
   have e2:(z * ((q.den:Nat):Int)≤q.num * 1099511627776) ↔ ((z:Rat) * (((q.den:Nat):Int):Rat)≤(q.num:Rat) * 1099511627776):=by
    rw [← Rat.intCast_le_intCast,Rat.intCast_mul,Rat.intCast_mul]; rfl
   rw [e2,← h0];generalize (((q.den:Nat):Int):Rat)=d at *;constructor
   ·intro h;have:=Rat.mul_le_mul_of_nonneg_right h (Rat.le_of_lt hdR);grind
   ·intro h;apply Rat.not_lt.1
    intro h2;have:=Rat.mul_pos (a:=z - q * 1099511627776) (b:=d) (by grind) hdR;grind
  rw [e1];unfold ivLo;generalize (q.num * 1099511627776).fdiv ((q.den:Nat):Int)=a at *;generalize (q.num * 1099511627776).fmod ((q.den:Nat):Int)=r at *;generalize ((q.den:Nat):Int)=d at *;generalize q.num * 1099511627776=n at *;constructor
  ·intro h;have:=Int.mul_le_mul_of_nonneg_right h (Int.le_of_lt hd);grind
  ·intro h;apply Int.not_lt.1
   intro h2;have:=Int.mul_le_mul_of_nonneg_right (show a+1≤z by omega) (Int.le_of_lt hd);grind
 have a:=(key (ivLo q)).1 (Int.le_refl _);have b:=(key _).2 (Int.le_refl _);omega
theorem ivRem_zero (q:Rat):ivRem q=0 ↔ ((ivLo q:Int):Rat)=q * 1099511627776:=by
 have hd:=q0t q;have h0:=den_mul q;obtain ⟨r1,r2,r3⟩:=dm_parts (x:=q.num * 1099511627776) hd;unfold ivLo ivRem;have hdR:(0:Rat) < (((q.den:Nat):Int):Rat):=by exact_mod_cast hd
 have e3:(((q.den:Nat):Int):Rat) * (((q.num * 1099511627776).fdiv ((q.den:Nat):Int):Int):Rat)+(((q.num * 1099511627776).fmod ((q.den:Nat):Int):Int):Rat)=(q.num:Rat) * 1099511627776:=by
  have h:((((q.den:Nat):Int) * (q.num * 1099511627776).fdiv ((q.den:Nat):Int)+(q.num * 1099511627776).fmod ((q.den:Nat):Int):Int):Rat)=((q.num * 1099511627776:Int):Rat):=(by rw [r3]);rw [Rat.intCast_add,Rat.intCast_mul,Rat.intCast_mul] at h;exact h
 generalize (q.num * 1099511627776).fdiv ((q.den:Nat):Int)=a at *;generalize (q.num * 1099511627776).fmod ((q.den:Nat):Int)=r at *;rw [← h0] at e3;generalize (((q.den:Nat):Int):Rat)=d at *;constructor
 ·intro h;subst h;have e4:d * (((a:Int):Rat) - q * 1099511627776)=0:=(by simp at e3; grind);rcases Rat.mul_eq_zero.1 e4 with h | h
  ·grind
  ·grind
 ·intro h;have:((r:Int):Rat)=0:=(by rw [h] at e3; grind);exact_mod_cast this
theorem ivHi_ceil (q:Rat):ivHi q=(q * 1099511627776).ceil:=by
 have hr:=ivRem_zero q;have f1:=Rat.le_floor_iff (x:=ivLo q) (a:=q * 1099511627776);rw [← ivLo_floor] at f1;have f2:=Rat.le_floor_iff (x:=ivLo q+1) (a:=q * 1099511627776);rw [← ivLo_floor] at f2;have f1':=f1.1 (Int.le_refl _);have f2':¬ (((ivLo q+1:Int):Rat)≤q * 1099511627776):=fun h=>by have:=f2.2 h; omega
 have key:∀ z:Int,ivHi q≤z ↔ (q * 1099511627776).ceil≤z:=fun z=>by
  rw [Rat.ceil_le_iff];unfold ivHi;split
  ·rename_i h
   rw [← hr.1 h,Rat.intCast_le_intCast]
  ·rename_i h
   rw [Rat.intCast_add] at f2';have hne:((ivLo q:Int):Rat)≠q * 1099511627776:=fun h2=>h (hr.2 h2);constructor
   ·intro h3;have h4:((ivLo q+1:Int):Rat)≤(z:Rat):=Rat.intCast_le_intCast.2 h3;rw [Rat.intCast_add] at h4;grind
   ·intro h3;have h4:((ivLo q:Int):Rat) < (z:Rat):=(by grind);have:=Rat.intCast_lt_intCast.1 h4;omega
 have a:=(key (ivHi q)).1 (Int.le_refl _);have b:=(key _).2 (Int.le_refl _);omega
theorem unit_mul (v:Rat):v * Rat.divInt 1 1099511627776 * 1099511627776=v:=by
 rw [Rat.divInt_eq_div];have h:=Rat.div_mul_cancel (a:=(((1:Int)):Rat)) (b:=((1099511627776:Int):Rat)) (by decide);have e:(((1:Int)):Rat) / ((1099511627776:Int):Rat) * (1099511627776:Rat)=1:=h;rw [Rat.mul_assoc,e,Rat.mul_one]
def unS (v:Rat):Int × Int × Int:=if v.floor < -2305843009213693952∨2305843009213693952 < v.ceil then (0,0,16) else (v.floor,v.ceil,0)
theorem unS_eq (v:Rat):ivS (v * Rat.divInt 1 1099511627776)=unS v:=by
 unfold ivS unS;rw [ivLo_floor,ivHi_ceil,unit_mul]
theorem fl_le_ceil (v:Rat):v.floor≤v.ceil∧v.ceil≤v.floor+1:=by
 have h1:=Rat.floor_le v;have h2:=(Rat.ceil_le_iff (x:=v) (y:=v.ceil)).1 (Int.le_refl _);refine ⟨Rat.intCast_le_intCast.1 (Rat.le_trans h1 h2),Rat.ceil_le_iff.2 ?_⟩;have h3:¬ (v.floor+1≤v.floor):=(by omega);rw [Rat.le_floor_iff] at h3;exact Rat.le_of_lt (Rat.not_le.1 h3)
theorem unS_ok {v:Rat} {m:Int} (hm:m≤2305843009213693952) (h1 : -(m:Rat)≤v) (h2:v≤(m:Rat)):unS v=(v.floor,v.ceil,0):=by
 unfold unS;rw [if_neg];have a : -m≤v.floor:=Rat.le_floor_iff.2 (by rw [Rat.intCast_neg]; exact h1);have b:v.ceil≤m:=Rat.ceil_le_iff.2 h2;omega
theorem fl_near {u v:Rat} {w:Int} (h1 : -(w:Rat)≤u - v) (h2:u - v≤(w:Rat)):v.floor - w≤u.floor∧u.ceil≤v.ceil+w:=by
 have a:=Rat.floor_le v;have b:=(Rat.ceil_le_iff (x:=v) (y:=v.ceil)).1 (Int.le_refl _);constructor
 ·rw [Rat.le_floor_iff,Rat.intCast_sub]; grind
 ·rw [Rat.ceil_le_iff,Rat.intCast_add]; grind
end Go.Proofs.YtgnjhlnolihgcaaGreat
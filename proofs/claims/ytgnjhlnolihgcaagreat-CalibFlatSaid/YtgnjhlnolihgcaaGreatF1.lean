import Derived.Test.YtgnjhlnolihgcaaGreatFMath
import Derived.Test.YtgnjhlnolihgcaaGreatW36
import Derived.Test.YtgnjhlnolihgcaaGreatW38
import Derived.Defers
import Derived.Recover
import Derived.Laws.Pointers
import Derived.Deep.CutRange
import Derived.Deep.RegionHeld3
set_option maxHeartbeats 2000000
set_option maxRecDepth 100000
namespace Go.Proofs.YtgnjhlnolihgcaaGreat
open Go.RowKit
attribute [local go_sem ↓] Go.wp_at_zero Go.wp_at_succ
@[reducible] def fallE (k:Int):Ending:=.panicked [{ v:=.iface 191 (.agg #[.int .i64 k]),recovered:=false }]
theorem must_ok (n:Bool) (A:Option Addr) (m c:Nat) (w:World) :
  Calls Tryz.prog 69 #[.agg #[.bool n,.slice A m c],.int .i64 0] w fun e w'=>e=.returned (.agg #[.bool n,.slice A m c])∧Below w.heap.size w w':=by
 go_enter Tryz.func69,Tryz.ntmps69
 go_wp2
 refine bodyPost_ret (v:=.agg #[.bool n,.slice A m c]) (by simp [results,Tryz.results69,go_sem]) rfl ⟨rfl,?_⟩;exact blw2 _ _ _
theorem q0x (w:World) :
  Calls Tryz.prog 74 #[.int .i64 0] w fun e w'=>e=.returned (.tuple #[])∧Below w.heap.size w w':=by
 go_enter Tryz.func74,Tryz.ntmps74
 go_wp2
 go_end0
 exact ⟨rfl,Below.refl _ _⟩
theorem want_bad (k:Int) (hk:k≠0) (w:World) :
  Calls Tryz.prog 74 #[.int .i64 k] w fun e w'=>e=fallE k∧Below w.heap.size w w':=by
 have hb:(k == 0)=false:=(by rw [beq_eq_false_iff_ne]; exact hk);go_enter Tryz.func74,Tryz.ntmps74
 go_wp2
 exact ⟨rfl,rfl,Below.refl _ _⟩
theorem one_any (w:World):Calls Tryz.prog 125 #[] w (WRes1 (wOf 1) w):=by
 go_enter Tryz.func125,Tryz.ntmps125
 go_wp2_with fail
 refine (from_any 1 _ (by omega) (by omega)).mono ?_;rintro e w1 ⟨A,c,rfl,hs,hb⟩;obtain ⟨r0,r1⟩:Cw w1 w.heap.size false none 0 0:=⟨q0b hb (by go_simp),q0b hb (by go_simp)⟩;obtain ⟨f0,f1⟩:Fw w1 w.heap.size:=⟨(hb.frozen (by simp <;> omega)).trans (by go_simp),(hb.frozen (by simp <;> omega)).trans (by go_simp)⟩;have Hs:=Lib.hid hs;have Hb:=Lib.hid (q0a (blw1 _ _) hb);clear hb hs;go_wp2
 exact bodyPost_ret (v:=.agg #[.bool (wOf 1).1,.slice A (wOf 1).2.length c]) (by simp [results,Tryz.results125,go_sem,r0,r1]) rfl ⟨A,c,rfl,Hs.out.setW r0 r1 _ _,q0c Hb.out (by omega) _ _⟩
theorem zero_any (n:Bool) (A:Option Addr) (l:List Nat) (c:Nat) (w:World) :
  Calls Tryz.prog 115 #[.agg #[.bool n,.slice A l.length c]] w fun e w'=>e=.returned (.bool ((l.length:Int) == 0))∧Below w.heap.size w w':=by
 go_enter Tryz.func115,Tryz.ntmps115
 go_wp2
 go_ret
 exact ⟨rfl,blw1 _ _⟩
theorem fsame_any (n1 n2:Bool) (A1 A2:Option Addr) (l1 l2:List Nat) (c1 c2:Nat) (w:World) (hs1:Sl w A1 l1 c1) (hs2:Sl w A2 l2 c2) :
  Calls Tryz.prog 124 #[.agg #[.bool n1,.slice A1 l1.length c1],.agg #[.bool n2,.slice A2 l2.length c2]] w fun e w'=>e=.returned (.bool ((cmpS n1 l1 n2 l2).1 == 0))∧Below w.heap.size w w':=by
 have Hs1:=Lib.hid hs1;have Hs2:=Lib.hid hs2;clear hs1 hs2;obtain ⟨r,hr⟩:∃ r,r=cmpS n1 l1 n2 l2:=⟨_,rfl⟩;rw [← hr];have Hr:=Lib.hid hr;clear hr;go_enter Tryz.func124,Tryz.ntmps124
 go_wp2_with fail
 refine (cmp_any _ _ _ _ _ _ _ _ _ ((Hs1.out.alloc _).alloc _) ((Hs2.out.alloc _).alloc _)).mono ?_;rw [← Hr.out];rintro e w1 ⟨rfl,hb⟩;have Hb:=Lib.hid (q0a (blw2 _ _ _) hb);clear hb;go_wp2
 go_ret
 exact ⟨rfl,Hb.out⟩
theorem as_fall (v:Value) (w:World):(Instr.typeAssert (.iface 191 v) 20 191 true).run Tryz.prog w=.ok (.tuple #[v,.bool true]) w:=by kernel_rfl
theorem catch_idle (p:Addr) (w:World) :
  CallsD Tryz.prog 73 #[.pointer (some p)] .returning w fun e u' w'=>e=.returned (.tuple #[])∧u'=.returning∧w'=w:=by
 refine callsD_of_wpS Tryz.func73 rfl fun c₀ cs hu=>?_;apply wpS_seq
 apply wpS_region
 simp [wpOpsS,go_sem,recoverD,hu,Tryz.ntmps73,Exit.thenS];refine wpS_of_wp ?_;go_wp2
 cases c₀
 simp_all [bodyPostS,results,Tryz.results73]
theorem catch_fall (g:Nat) (x k:Int) (older:List PanicEntry) (w:World) (h:C1 w g (.int .i64 x)) :
  CallsD Tryz.prog 73 #[.pointer (some ⟨g,0,none⟩)] (.panicking ({ v:=.iface 191 (.agg #[.int .i64 k]),recovered:=false } :: older)) w fun e u' w'=>
   e=.returned (.tuple #[])∧u'=.panicking ({ v:=.iface 191 (.agg #[.int .i64 k]),recovered:=true } :: older)∧∃ o,w'=(w.setCell ⟨g,0,none⟩ (.int .i64 k)).alloc o:=by
 have hg:=lt_of_cell h.1;have hc:(w.alloc (.cells #[.int .i64 k] 191)).cell? ⟨g,0,none⟩=some (.int .i64 x):=q0b (blw1 _ _) h.1;have hz:(w.alloc (.cells #[.int .i64 k] 191)).frozen? ⟨g,0,none⟩=false:=q0y (blw1 _ _) h.1 h.2;refine callsD_of_wpS Tryz.func73 rfl fun c₀ cs hu=>?_;apply wpS_seq
 apply wpS_region
 simp [wpOpsS,go_sem,recoverD,hu,Tryz.ntmps73,Exit.thenS];refine wpS_of_wp ?_;clear hu h;have Has:=as_fall;have harr:(#[Value.pointer (some ⟨g,0,none⟩)] ++ (Array.replicate 14 undef).setIfInBounds 4 (Value.iface 191 (Value.agg #[Value.int IntKind.i64 k])):Array Value)=#[Value.pointer (some ⟨g,0,none⟩),undef,undef,undef,undef,Value.iface 191 (Value.agg #[Value.int IntKind.i64 k]),undef,undef,undef,undef,undef,undef,undef,undef,undef]:=rfl;rw [harr];clear harr;go_wp2_with fail
 cases c₀
 simp [bodyPostS,results,Tryz.results73];exact ⟨_,rfl⟩
end Go.Proofs.YtgnjhlnolihgcaaGreat
namespace Go.Proofs.YtgnjhlnolihgcaaGreat
open Go.RowKit
attribute [local go_sem ↓] Go.wp_at_zero Go.wp_at_succ
theorem reduce_any (n1 n2:Bool) (A1 A2:Option Addr) (l1 l2:List Nat) (c1 c2:Nat) (x y:Int) (h1:VZ n1 l1 x) (h2:VZ n2 l2 y) (hy:y≠0) (w:World) (hs1:Sl w A1 l1 c1) (hs2:Sl w A2 l2 c2) :
  Calls Tryz.prog 116 #[.agg #[.bool n1,.slice A1 l1.length c1],.agg #[.bool n2,.slice A2 l2.length c2]] w (FRes1 (redZ x y) w):=by
 obtain ⟨ng,lg,hg⟩:∃ ng lg,wOf (Int.gcd x y:Int)=(ng,lg):=⟨_,_,rfl⟩;obtain ⟨ns,ls,hs⟩:∃ ns ls,wOf (sgZ x y)=(ns,ls):=⟨_,_,rfl⟩;have vs:VZ ns ls (sgZ x y):=vz_mk hs.symm (fit_sg h1.2 h2.2);obtain ⟨⟨⟨na,la⟩,⟨nb,lb⟩⟩,hr⟩:∃ r:(Bool × List Nat) × (Bool × List Nat),r=redZ x y:=⟨_,rfl⟩;obtain ⟨⟨np,lp⟩,hp⟩:∃ r:Bool × List Nat,r=wOf (x.fmod (sgZ x y)):=⟨_,rfl⟩;obtain ⟨⟨nq,lq⟩,hq⟩:∃ r:Bool × List Nat,r=wOf (y.fmod (sgZ x y)):=⟨_,rfl⟩;have e1:Hid (gcdS n1 l1 n2 l2=((ng,lg),0)):=by rw [← hg]; exact vz_gcd h1 h2
 have e3:Hid (dmS n1 l1 ns ls=((na,la),(np,lp),0)):=by
  have h:=dmS_z h1 vs (sg_ne hy);rw [← hp] at h;rw [Hid,h,(Prod.mk.inj hr).1]
 have e4:Hid (dmS n2 l2 ns ls=((nb,lb),(nq,lq),0)):=by
  have h:=dmS_z h2 vs (sg_ne hy);rw [← hq] at h;rw [Hid,h,(Prod.mk.inj hr).2]
 rw [← hr];have S1:=Lib.hid hs1;have S2:=Lib.hid hs2;have B:Hid (Below w.heap.size w w):=Below.refl _ _;have hn:=h2.neg_eq;by_cases hneg:y < 0
 ·obtain rfl:n2=true:=hn.trans (decide_eq_true hneg)
  have e2:Hid (negS ng lg=((ns,ls),0)):=by
   have h:=negS_z (vz_mk hg.symm (fit_gcd h1.2 h2.2));rw [Hid,h,← hs];unfold sgZ;rw [if_pos hneg]
  clear hs1 hs2 h1 h2 hn hneg hg hs vs hr hp hq hy;go_enter Tryz.func116,Tryz.ntmps116
  go_wp2_with fail
  refine (wgcd_any _ _ _ _ _ _ _ _ _ (((S1.out.alloc _).alloc _).alloc _) (((S2.out.alloc _).alloc _).alloc _)).mono ?_;rw [e1.out];rintro e w1 ⟨A1',c1',rfl,hsg,hb⟩;replace S1:=kS3 S1 hb;replace S2:=kS3 S2 hb;have Fr:Hid (Ff w1 (w.heap.size+1+1)):=Ff.keep (Ff.fresh (by simp) _ _) (Cf.fresh (by simp) _ _ _ _ _ _ _ _ _) hb;have Ka:Hid (Cw w1 w.heap.size n1 A1 l1.length c1):=Cw.keep (Cw.keep (Cw.keep (Cw.fresh (by simp) _ _ _ _ _) (blw1 _ _)) (blw1 _ _)) hb;have Kb:Hid (Cw w1 (w.heap.size+1) true A2 l2.length c2):=Cw.keep (Cw.keep (Cw.fresh (by simp) _ _ _ _ _) (blw1 _ _)) hb;have Kr:Hid (Cf w1 (w.heap.size+1+1) false none 0 0 false none 0 0):=Cf.keep (Cf.fresh (by simp) _ _ _ _ _ _ _ _ _) hb;replace B:=kB3 B hb;clear hb;have Sg:Hid (Sl w1 A1' lg c1'):=hsg;clear hsg;obtain ⟨qa0,qa1⟩:=Ka.out;obtain ⟨qb0,qb1⟩:=Kb.out;have hza:=lW Ka;have hzb:=lW Kb;have hzr:=lF Kr;go_wp2_with fail
  refine (must_ok _ _ _ _ _).mono ?_;rintro e w2 ⟨rfl,hb⟩;clear qa0 qa1 qb0 qb1;replace S1:=kS S1 hb;replace S2:=kS S2 hb;replace Sg:=kS Sg hb;replace Fr:=kFf Fr Kr hb;replace Ka:=kW Ka hb;replace Kb:=kW Kb hb;replace Kr:=kF Kr hb;replace B:=kB B hb;clear hb;obtain ⟨qa0,qa1⟩:=Ka.out;obtain ⟨qb0,qb1⟩:=Kb.out;replace hza:=lW Ka;replace hzb:=lW Kb;replace hzr:=lF Kr;have hkag:=hza;have hkbg:=hzb;have hkrg:=hzr;go_wp2_with fail
  refine (neg_any _ _ _ _ _ (Sg.out.alloc _)).mono ?_;rw [e2.out];rintro e w3 ⟨A2',c2',rfl,hss,hb⟩;clear qa0 qa1 qb0 qb1;replace S1:=kS1 S1 hb;replace S2:=kS1 S2 hb;replace Sg:=kS1 Sg hb;replace Fr:=kFf1 Fr Kr hb;have Fg:Hid (Fw w3 w2.heap.size):=Fw.keep (Fw.fresh (by simp) _ _) (Cw.fresh (by simp) _ _ _ _ _) hb;replace Ka:=kW1 Ka hb;replace Kb:=kW1 Kb hb;replace Kr:=kF1 Kr hb;have Kg:Hid (Cw w3 w2.heap.size ng A1' lg.length c1'):=Cw.keep (Cw.fresh (by simp) _ _ _ _ _) hb;replace B:=kB1 B hb;clear hb;have Ss:Hid (Sl w3 A2' ls c2'):=hss;clear hss;obtain ⟨qa0,qa1⟩:=Ka.out;obtain ⟨qb0,qb1⟩:=Kb.out;obtain ⟨qg0,qg1⟩:=Kg.out;obtain ⟨fg0,fg1⟩:=Fg.out;replace hza:=lW Ka;replace hzb:=lW Kb;replace hzr:=lF Kr;have hzg:=lW Kg;go_wp2_with fail
  refine (must_ok _ _ _ _ _).mono ?_;rintro e w4 ⟨rfl,hb⟩;clear qa0 qa1 qb0 qb1 qg0 qg1 fg0 fg1;replace S1:=kS S1 hb;replace S2:=kS S2 hb;replace Sg:=kS Sg hb;replace Ss:=kS Ss hb;replace Fr:=kFf Fr Kr hb;replace Fg:=kFw Fg Kg hb;replace Ka:=kW Ka hb;replace Kb:=kW Kb hb;replace Kr:=kF Kr hb;replace Kg:=kW Kg hb;replace B:=kB B hb;clear hb;obtain ⟨qa0,qa1⟩:=Ka.out;obtain ⟨qb0,qb1⟩:=Kb.out;obtain ⟨qg0,qg1⟩:=Kg.out;obtain ⟨fg0,fg1⟩:=Fg.out;replace hza:=lW Ka;replace hzb:=lW Kb;replace hzr:=lF Kr;replace hzg:=lW Kg;go_wp2_with fail
  refine (q0q _ _ _ _ _ _ _ _ _ (S1.out.setW Kg.out.1 Kg.out.2 _ _) (Ss.out.setW Kg.out.1 Kg.out.2 _ _)).mono ?_;rw [e3.out];rintro e w5 ⟨A3',c3',B3',d3',rfl,hsx,htx,hb⟩;clear qa0 qa1 qb0 qb1 qg0 qg1 fg0 fg1;replace S1:Hid (Sl w5 A1 l1 c1):=Sl.below (S1.out.setW Kg.out.1 Kg.out.2 _ _) hb;replace S2:Hid (Sl w5 A2 l2 c2):=Sl.below (S2.out.setW Kg.out.1 Kg.out.2 _ _) hb;replace Sg:Hid (Sl w5 A1' lg c1'):=Sl.below (Sg.out.setW Kg.out.1 Kg.out.2 _ _) hb;replace Ss:Hid (Sl w5 A2' ls c2'):=Sl.below (Ss.out.setW Kg.out.1 Kg.out.2 _ _) hb;replace Fr:Hid (Ff w5 (w.heap.size+1+1)):=Ff.keep (Ff.setW Fr.out _ _) (Cf.setW Kr.out (by omega) _ _) hb;replace Fg:Hid (Fw w5 w2.heap.size):=Fw.keep (Fw.setW Fg.out _ _) (Cw.new Kg.out) hb;replace Ka:Hid (Cw w5 w.heap.size n1 A1 l1.length c1):=Cw.keep (Cw.setW Ka.out (by omega) _ _) hb;replace Kb:Hid (Cw w5 (w.heap.size+1) true A2 l2.length c2):=Cw.keep (Cw.setW Kb.out (by omega) _ _) hb;replace Kr:Hid (Cf w5 (w.heap.size+1+1) false none 0 0 false none 0 0):=Cf.keep (Cf.setW Kr.out (by omega) _ _) hb;replace Kg:Hid (Cw w5 w2.heap.size ns A2' ls.length c2'):=Cw.keep (Cw.new Kg.out) hb;replace B:Hid (Below w.heap.size w w5):=q0a (q0c B.out (by omega) _ _) hb;clear hb;have Sx:Hid (Sl w5 A3' la c3'):=hsx;clear hsx;clear htx;obtain ⟨qa0,qa1⟩:=Ka.out;obtain ⟨qb0,qb1⟩:=Kb.out;obtain ⟨qg0,qg1⟩:=Kg.out;obtain ⟨fg0,fg1⟩:=Fg.out;replace hza:=lW Ka;replace hzb:=lW Kb;replace hzr:=lF Kr;replace hzg:=lW Kg;have hkax:=hza;have hkbx:=hzb;have hkrx:=hzr;have hkgx:=hzg;go_wp2_with fail
  refine (q0q _ _ _ _ _ _ _ _ _ ((S2.out.alloc _).alloc _) ((Ss.out.alloc _).alloc _)).mono ?_;rw [e4.out];rintro e w6 ⟨A4',c4',B4',d4',rfl,hsy,hty,hb⟩;clear qa0 qa1 qb0 qb1 qg0 qg1 fg0 fg1;replace S1:=kS2 S1 hb;replace S2:=kS2 S2 hb;replace Sg:=kS2 Sg hb;replace Ss:=kS2 Ss hb;replace Sx:=kS2 Sx hb;replace Fr:=kFf2 Fr Kr hb;replace Fg:=kFw2 Fg Kg hb;replace Ka:=kW2 Ka hb;replace Kb:=kW2 Kb hb;replace Kr:=kF2 Kr hb;replace Kg:=kW2 Kg hb;have Kx:Hid (Cw w6 w5.heap.size na A3' la.length c3'):=Cw.keep (Cw.keep (Cw.fresh (by simp) _ _ _ _ _) (blw1 _ _)) hb;replace B:=kB2 B hb;clear hb;have Sy:Hid (Sl w6 A4' lb c4'):=hsy;clear hsy;clear hty;obtain ⟨qx0,qx1⟩:=Kx.out;obtain ⟨qr0,qr1,qr2,qr3⟩:=Kr.out;obtain ⟨fr0,fr1,fr2,fr3⟩:=Fr.out;replace hza:=lW Ka;replace hzb:=lW Kb;replace hzr:=lF Kr;replace hzg:=lW Kg;have hzx:=lW Kx;have hzr2:w.heap.size+1+1 < w6.heap.size+1:=(by omega);go_wp2_with fail
  exact bodyPost_ret (v:=.agg #[.bool na,.slice A3' la.length c3',.bool nb,.slice A4' lb.length c4']) (by simp [results,Tryz.results116,go_sem,qr0,qr1,qr2,qr3,hzr,hzr2]) rfl (FRes1.alloc (FRes1.alloc (fres1_store (r:=((na,la),(nb,lb))) Sx.out Sy.out Kr.out B.out (by omega) _ _ _ _) _) _)
 ·obtain rfl:n2=false:=hn.trans (decide_eq_false hneg)
  obtain ⟨rfl,rfl⟩:ng=ns∧lg=ls:=by
   unfold sgZ at hs;rw [if_neg hneg] at hs;exact Prod.mk.inj (hg.symm.trans hs)
  clear hs1 hs2 h1 h2 hn hneg hg hs vs hr hp hq hy;go_enter Tryz.func116,Tryz.ntmps116
  go_wp2_with fail
  refine (wgcd_any _ _ _ _ _ _ _ _ _ (((S1.out.alloc _).alloc _).alloc _) (((S2.out.alloc _).alloc _).alloc _)).mono ?_;rw [e1.out];rintro e w1 ⟨A1',c1',rfl,hsg,hb⟩;replace S1:=kS3 S1 hb;replace S2:=kS3 S2 hb;have Fr:Hid (Ff w1 (w.heap.size+1+1)):=Ff.keep (Ff.fresh (by simp) _ _) (Cf.fresh (by simp) _ _ _ _ _ _ _ _ _) hb;have Ka:Hid (Cw w1 w.heap.size n1 A1 l1.length c1):=Cw.keep (Cw.keep (Cw.keep (Cw.fresh (by simp) _ _ _ _ _) (blw1 _ _)) (blw1 _ _)) hb;have Kb:Hid (Cw w1 (w.heap.size+1) false A2 l2.length c2):=Cw.keep (Cw.keep (Cw.fresh (by simp) _ _ _ _ _) (blw1 _ _)) hb;have Kr:Hid (Cf w1 (w.heap.size+1+1) false none 0 0 false none 0 0):=Cf.keep (Cf.fresh (by simp) _ _ _ _ _ _ _ _ _) hb;replace B:=kB3 B hb;clear hb;have Sg:Hid (Sl w1 A1' lg c1'):=hsg;clear hsg;obtain ⟨qa0,qa1⟩:=Ka.out;obtain ⟨qb0,qb1⟩:=Kb.out;have hza:=lW Ka;have hzb:=lW Kb;have hzr:=lF Kr;go_wp2_with fail
  refine (must_ok _ _ _ _ _).mono ?_;rintro e w2 ⟨rfl,hb⟩;clear qa0 qa1 qb0 qb1;replace S1:=kS S1 hb;replace S2:=kS S2 hb;replace Sg:=kS Sg hb;replace Fr:=kFf Fr Kr hb;replace Ka:=kW Ka hb;replace Kb:=kW Kb hb;replace Kr:=kF Kr hb;replace B:=kB B hb;clear hb;obtain ⟨qa0,qa1⟩:=Ka.out;obtain ⟨qb0,qb1⟩:=Kb.out;replace hza:=lW Ka;replace hzb:=lW Kb;replace hzr:=lF Kr;have hkag:=hza;have hkbg:=hzb;have hkrg:=hzr;go_wp2_with fail
  refine (q0q _ _ _ _ _ _ _ _ _ (S1.out.alloc _) (Sg.out.alloc _)).mono ?_;rw [e3.out];rintro e w3 ⟨A3',c3',B3',d3',rfl,hsx,htx,hb⟩;clear qa0 qa1 qb0 qb1;replace S1:=kS1 S1 hb;replace S2:=kS1 S2 hb;replace Sg:=kS1 Sg hb;replace Fr:=kFf1 Fr Kr hb;have Fg:Hid (Fw w3 w2.heap.size):=Fw.keep (Fw.fresh (by simp) _ _) (Cw.fresh (by simp) _ _ _ _ _) hb;replace Ka:=kW1 Ka hb;replace Kb:=kW1 Kb hb;replace Kr:=kF1 Kr hb;have Kg:Hid (Cw w3 w2.heap.size ng A1' lg.length c1'):=Cw.keep (Cw.fresh (by simp) _ _ _ _ _) hb;replace B:=kB1 B hb;clear hb;have Sx:Hid (Sl w3 A3' la c3'):=hsx;clear hsx;clear htx;obtain ⟨qa0,qa1⟩:=Ka.out;obtain ⟨qb0,qb1⟩:=Kb.out;obtain ⟨qg0,qg1⟩:=Kg.out;obtain ⟨fg0,fg1⟩:=Fg.out;replace hza:=lW Ka;replace hzb:=lW Kb;replace hzr:=lF Kr;have hzg:=lW Kg;have hkax:=hza;have hkbx:=hzb;have hkrx:=hzr;have hkgx:=hzg;go_wp2_with fail
  refine (q0q _ _ _ _ _ _ _ _ _ ((S2.out.alloc _).alloc _) ((Sg.out.alloc _).alloc _)).mono ?_;rw [e4.out];rintro e w4 ⟨A4',c4',B4',d4',rfl,hsy,hty,hb⟩;clear qa0 qa1 qb0 qb1 qg0 qg1 fg0 fg1;replace S1:=kS2 S1 hb;replace S2:=kS2 S2 hb;replace Sg:=kS2 Sg hb;replace Sx:=kS2 Sx hb;replace Fr:=kFf2 Fr Kr hb;replace Fg:=kFw2 Fg Kg hb;replace Ka:=kW2 Ka hb;replace Kb:=kW2 Kb hb;replace Kr:=kF2 Kr hb;replace Kg:=kW2 Kg hb;have Kx:Hid (Cw w4 w3.heap.size na A3' la.length c3'):=Cw.keep (Cw.keep (Cw.fresh (by simp) _ _ _ _ _) (blw1 _ _)) hb;replace B:=kB2 B hb;clear hb;have Sy:Hid (Sl w4 A4' lb c4'):=hsy;clear hsy;clear hty;obtain ⟨qx0,qx1⟩:=Kx.out;obtain ⟨qr0,qr1,qr2,qr3⟩:=Kr.out;obtain ⟨fr0,fr1,fr2,fr3⟩:=Fr.out;replace hza:=lW Ka;replace hzb:=lW Kb;replace hzr:=lF Kr;replace hzg:=lW Kg;have hzx:=lW Kx;have hzr2:w.heap.size+1+1 < w4.heap.size+1:=(by omega);go_wp2_with fail
  exact bodyPost_ret (v:=.agg #[.bool na,.slice A3' la.length c3',.bool nb,.slice A4' lb.length c4']) (by simp [results,Tryz.results116,go_sem,qr0,qr1,qr2,qr3,hzr,hzr2]) rfl (FRes1.alloc (FRes1.alloc (fres1_store (r:=((na,la),(nb,lb))) Sx.out Sy.out Kr.out B.out (by omega) _ _ _ _) _) _)
end Go.Proofs.YtgnjhlnolihgcaaGreat
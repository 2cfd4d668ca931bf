import Derived.Test.YtgnjhlnolihgcaaGreatW2
import Derived.Test.YtgnjhlnolihgcaaGreatDown
set_option maxHeartbeats 1000000
namespace Go.Proofs.YtgnjhlnolihgcaaGreat
open Lib renaming hid → lh
open Go.RowKit
theorem rcompare_any (A1 A2:Option Addr) (l1 l2:List Nat) (c1 c2:Nat) (w:World) (hs1:Sl w A1 l1 c1) (hs2:Sl w A2 l2 c2) :
  Calls Tryz.prog 84 #[.slice A1 l1.length c1,.slice A2 l2.length c2] w fun e w'=>e=.returned (.int .i64 (cmpL l1 l2))∧∃ n,w'=w.drewN n:=by
 have hlen:=hs1.len;have Hs1:=lh hs1;have Hs2:=lh hs2;clear hs1 hs2;by_cases hl:l1.length=l2.length
 ·have Hl:=lh hl;have hr:cmpL l1 l2=q1j l1 l2 l1.length:=(by rw [cmpL,if_pos hl]);rw [← hl,hr];clear hl hr;generalize hz:q1j l1 l2 l1.length=z;have Hz:=lh hz;clear hz;go_enter Tryz.func84,Tryz.ntmps84
  go_wp2
  go_loopw [5] (fun t wr=>∃ m:Nat,m≤l1.length∧t=.int .i64 ((m:Int) - 1)∧q1j l1 l2 m=z∧∃ n,wr=w.drewN n) (fun t _=>(intOf t+1).toNat)
  case atStart=>exact ⟨l1.length,Nat.le_refl _,rfl,Hz.out,0,rfl⟩
  case round=>
   obtain ⟨m,hm,rfl,hc,n,rfl⟩:=hrel;have Hc:=lh hc;clear hc
   cases m with
   | zero=>
    go_wp2
    go_ret
    exact ⟨by rw [← Hc.out]; rfl,n,rfl⟩
   | succ m=>
    obtain ⟨b1,o1,rfl,hx1⟩:=Hs1.out.rd.at_ (k:=m) (by omega);obtain ⟨b2,o2,rfl,hx2⟩:=Hs2.out.rd.at_ (k:=m) (by rw [← Hl.out]; omega);by_cases h1:l1[m]?.getD 0 < l2[m]?.getD 0
    ·have hr:z = -1:=(by rw [← Hc.out,q1j,if_pos h1]);have Hr:=lh hr;clear hr;go_wp2
     go_quiet (fail)
     go_wp2
     go_ret
     exact ⟨by rw [Hr.out]; rfl,_,by rw [World.drewN_drewN]⟩
    ·by_cases h2:l2[m]?.getD 0 < l1[m]?.getD 0
     ·have hr:z=1:=(by rw [← Hc.out,q1j,if_neg h1,if_pos h2]);have Hr:=lh hr;clear hr;go_wp2
      go_quiet (fail)
      go_wp2
      go_quiet (fail)
      go_wp2
      go_ret
      exact ⟨by rw [Hr.out]; rfl,_,by rw [World.drewN_drewN,World.drewN_drewN]⟩
     ·have hr:q1j l1 l2 m=z:=(by rw [← Hc.out,q1j,if_neg h1,if_neg h2]);have Hr:=lh hr;clear hr;go_wp2
      go_quiet (fail)
      go_wp2
      go_quiet (fail)
      go_wp2
      go_roundw
      case rel=>exact ⟨m,by omega,by go_num,Hr.out,_,rfl⟩
      case measure=>simp [intOf]
 ·have h1:((l1.length:Int) != l2.length)=true:=(by rw [bne_iff_ne]; omega);by_cases hlt:l1.length < l2.length
  ·have hr:cmpL l1 l2 = -1:=(by rw [cmpL,if_neg hl,if_pos hlt]);rw [hr];clear hr hl;go_enter Tryz.func84,Tryz.ntmps84
   go_wp2
   go_ret
   exact ⟨rfl,0,rfl⟩
  ·have hr:cmpL l1 l2=1:=(by rw [cmpL,if_neg hl,if_neg hlt]);rw [hr];clear hr hl;go_enter Tryz.func84,Tryz.ntmps84
   go_wp2
   go_ret
   exact ⟨rfl,0,rfl⟩
end Go.Proofs.YtgnjhlnolihgcaaGreat
namespace Go.Proofs.YtgnjhlnolihgcaaGreat
open Lib renaming hid → lh
open Go.RowKit
theorem to_any (n1 n2:Bool) (A1 A2:Option Addr) (l1 l2:List Nat) (c1 c2:Nat) (w:World) (hs1:Sl w A1 l1 c1) (hs2:Sl w A2 l2 c2) :
  Calls Tryz.prog 128 #[.agg #[.bool n1,.slice A1 l1.length c1],.agg #[.bool n2,.slice A2 l2.length c2]] w fun e w'=>e=.returned (.int .i64 (cmpW n1 l1 n2 l2))∧Below w.heap.size w w':=by
 have Hs1:=lh hs1;have Hs2:=lh hs2;clear hs1 hs2;cases n1 <;> cases n2
 ·have hr:cmpW false l1 false l2=cmpL l1 l2:=rfl;rw [hr];clear hr;go_enter Tryz.func128,Tryz.ntmps128
  go_wp2_with fail
  refine (q1c _ _ _ _ _ _ _ ((Hs1.out.alloc _).alloc _) ((Hs2.out.alloc _).alloc _)).mono ?_;rintro e w1 ⟨rfl,hb⟩;have Hb:=lh (q0a (blw2 _ _ _) hb);clear hb;go_wp2
  go_ret
  exact ⟨rfl,Hb.out⟩
 ·go_enter Tryz.func128,Tryz.ntmps128
  go_wp2_with fail
  go_ret
  exact ⟨rfl,blw2 _ _ _⟩
 ·go_enter Tryz.func128,Tryz.ntmps128
  go_wp2_with fail
  go_ret
  exact ⟨rfl,blw2 _ _ _⟩
 ·have hr:cmpW true l1 true l2=cmpL l2 l1:=rfl;rw [hr];clear hr;go_enter Tryz.func128,Tryz.ntmps128
  go_wp2_with fail
  refine (q1c _ _ _ _ _ _ _ ((Hs2.out.alloc _).alloc _) ((Hs1.out.alloc _).alloc _)).mono ?_;rintro e w1 ⟨rfl,hb⟩;have Hb:=lh (q0a (blw2 _ _ _) hb);clear hb;go_wp2
  go_ret
  exact ⟨rfl,Hb.out⟩
def sameB (n1:Bool) (l1:List Nat) (n2:Bool) (l2:List Nat):Bool:=(n1 == n2) && decide (l1=l2)
theorem same_any (n1 n2:Bool) (A1 A2:Option Addr) (l1 l2:List Nat) (c1 c2:Nat) (w:World) (hs1:Sl w A1 l1 c1) (hs2:Sl w A2 l2 c2) :
  Calls Tryz.prog 39 #[.agg #[.bool n1,.slice A1 l1.length c1],.agg #[.bool n2,.slice A2 l2.length c2]] w fun e w'=>e=.returned (.bool (sameB n1 l1 n2 l2))∧Below w.heap.size w w':=by
 have Hs1:=lh hs1;have Hs2:=lh hs2;clear hs1 hs2;by_cases hn:n1=n2
 ·subst hn
  have hr:sameB n1 l1 n1 l2=(cmpL l1 l2 == 0):=by
   unfold sameB;rw [beq_self_eq_true,Bool.true_and,Bool.eq_iff_iff,decide_eq_true_iff,beq_iff_eq,cmpL_zero]
  rw [hr];clear hr;have hb1:(n1 == n1)=true:=beq_self_eq_true n1;go_enter Tryz.func39,Tryz.ntmps39
  go_wp2_with fail
  refine (rcompare_any _ _ _ _ _ _ _ ((Hs1.out.alloc _).alloc _) ((Hs2.out.alloc _).alloc _)).mono ?_;rintro e w1 ⟨rfl,n,rfl⟩;go_wp2
  go_ret
  exact ⟨rfl,below_drewN (blw2 _ _ _) _⟩
 ·have hr:sameB n1 l1 n2 l2=false:=(by simp [sameB,hn]);rw [hr];clear hr;have hb1:(n1 == n2)=false:=(by simpa using hn);go_enter Tryz.func39,Tryz.ntmps39
  go_wp2_with fail
  go_ret
  exact ⟨rfl,blw2 _ _ _⟩
end Go.Proofs.YtgnjhlnolihgcaaGreat
namespace Go.Proofs.YtgnjhlnolihgcaaGreat
open Lib renaming hid → lh
open Go.RowKit
attribute [local go_sem ↓] Go.wp_at_zero Go.wp_at_succ
theorem Wcs.two {w:World} {b:Nat} {n1 n2:Bool} {A1 A2:Option Addr} {l1 l2:List Nat} {c1 c2:Nat} (hs1:Sl w A1 l1 c1) (hs2:Sl w A2 l2 c2) (hb:b=w.heap.size) :
  Wcs (w.alloc (.cells #[.bool n1,.slice A1 l1.length c1,.bool n2,.slice A2 l2.length c2] 46)) b [⟨n1,A1,l1,c1⟩,⟨n2,A2,l2,c2⟩]:=by
 subst hb;intro i v hv
 match i,hv with
 | 0,hv=>
  simp only [List.getElem?_cons_zero,Option.some.injEq] at hv;subst hv;exact ⟨by simp,by simp,hs1.alloc _⟩
 | 1,hv=>
  simp only [List.getElem?_cons_succ,List.getElem?_cons_zero,Option.some.injEq] at hv;subst hv;exact ⟨by simp,by simp,hs2.alloc _⟩
theorem q1e (v u:WV):chkW [v,u]=chk2 v.neg v.l u.neg u.l:=rfl
theorem cmp_any (n1 n2:Bool) (A1 A2:Option Addr) (l1 l2:List Nat) (c1 c2:Nat) (w:World) (hs1:Sl w A1 l1 c1) (hs2:Sl w A2 l2 c2) :
  Calls Tryz.prog 78 #[.agg #[.bool n1,.slice A1 l1.length c1],.agg #[.bool n2,.slice A2 l2.length c2]] w fun e w'=>e=.returned (.tuple #[.int .i64 (cmpS n1 l1 n2 l2).1,.int .i64 (cmpS n1 l1 n2 l2).2])∧Below w.heap.size w w':=by
 have hl1:=hs1.lim;have hl2:=hs2.lim;have Hs1:=lh hs1;have Hs2:=lh hs2;clear hs1 hs2;cases hbad:badL n1 l1 || badL n2 l2
 ·have hr:cmpS n1 l1 n2 l2=(cmpW n1 l1 n2 l2,0):=by
   have h:=Bool.or_eq_false_iff.1 hbad;rw [cmpS,hbad,if_neg (by simp),cmpW_good hl1 hl2 h.1 h.2]
  have hc:=chk2_good hbad;rw [hr];clear hr hbad hl1 hl2;go_enter Tryz.func78,Tryz.ntmps78
  go_wp2_with fail
  refine (q0e _ [⟨n1,A1,l1,c1⟩,⟨n2,A2,l2,c2⟩] (by simp) _ ?hc).mono ?_
  case hc=>exact Wcs.two ((Hs1.out.alloc _).alloc _) ((Hs2.out.alloc _).alloc _) (by simp)
  rintro e w1 ⟨rfl,hb⟩;rw [q1e];have hs1':=(((Hs1.out.alloc _).alloc _).alloc _).below hb;have hs2':=(((Hs2.out.alloc _).alloc _).alloc _).below hb;have q0:w1.cell? ⟨w.heap.size,0,none⟩=some (.bool n1):=q0b hb (by go_simp);have q1:w1.cell? ⟨w.heap.size,1,none⟩=some (.slice A1 l1.length c1):=q0b hb (by go_simp);have q2:w1.cell? ⟨w.heap.size+1,0,none⟩=some (.bool n2):=q0b hb (by go_simp);have q3:w1.cell? ⟨w.heap.size+1,1,none⟩=some (.slice A2 l2.length c2):=q0b hb (by go_simp);have Hb:=lh (q0a (blw3 _ _ _ _) hb);have Hs1':=lh hs1';have Hs2':=lh hs2';clear hb hs1' hs2';go_wp2_with fail
  refine (to_any _ _ _ _ _ _ _ _ _ Hs1'.out Hs2'.out).mono ?_;rintro e w2 ⟨rfl,hb2⟩;have Hb2:=lh hb2;clear hb2;go_wp2
  go_ret2
  exact ⟨rfl,q0a Hb.out Hb2.out⟩
 ·have hr:cmpS n1 l1 n2 l2=(0,8):=(by rw [cmpS,hbad,if_pos rfl]);have hc:=chk2_bad hbad;rw [hr];clear hr hbad;go_enter Tryz.func78,Tryz.ntmps78
  go_wp2_with fail
  refine (q0e _ [⟨n1,A1,l1,c1⟩,⟨n2,A2,l2,c2⟩] (by simp) _ ?hc).mono ?_
  case hc=>exact Wcs.two ((Hs1.out.alloc _).alloc _) ((Hs2.out.alloc _).alloc _) (by simp)
  rintro e w1 ⟨rfl,hb⟩;rw [q1e];have Hb:=lh (q0a (blw3 _ _ _ _) hb);clear hb;go_wp2
  go_ret2
  exact ⟨rfl,Hb.out⟩
end Go.Proofs.YtgnjhlnolihgcaaGreat
import Derived.Test.YtgnjhlnolihgcaaGreatW2
import Derived.Test.YtgnjhlnolihgcaaGreatDown
set_option maxHeartbeats 1000000
namespace Go.Proofs.YtgnjhlnolihgcaaGreat
open Go.RowKit
end Go.Proofs.YtgnjhlnolihgcaaGreat
namespace Go.Proofs.YtgnjhlnolihgcaaGreat
open Go.RowKit
theorem to_any (n1 n2:Bool) (A1 A2:Option Addr) (l1 l2:List Nat) (c1 c2:Nat) (w:World) (hs1:Sl w A1 l1 c1) (hs2:Sl w A2 l2 c2) :
  Calls Tryz.prog 128 #[.agg #[.bool n1,.slice A1 l1.length c1],.agg #[.bool n2,.slice A2 l2.length c2]] w fun e w'=>e=.returned (.int .i64 (cmpW n1 l1 n2 l2))∧Below w.heap.size w w':=by
 have Hs1:=Lib.hid hs1;have Hs2:=Lib.hid hs2;clear hs1 hs2;cases n1 <;> cases n2
 ·have hr:cmpW false l1 false l2=cmpL l1 l2:=rfl;rw [hr];clear hr;go_enter Tryz.func128,Tryz.ntmps128
  go_wp2_with fail
  refine (q1a _ _ _ _ _ _ _ ((Hs1.out.alloc _).alloc _) ((Hs2.out.alloc _).alloc _)).mono ?_;rintro e w1 ⟨rfl,hb⟩;have Hb:=Lib.hid (q0a (blw2 _ _ _) hb);clear hb;go_wp2
  go_ret
  exact ⟨rfl,Hb.out⟩
 ·go_enter Tryz.func128,Tryz.ntmps128
  go_wp2_with fail
  go_ret
  exact ⟨rfl,blw2 _ _ _⟩
 ·go_enter Tryz.func128,Tryz.ntmps128
  go_wp2_with fail
  go_ret
  exact ⟨rfl,blw2 _ _ _⟩
 ·have hr:cmpW true l1 true l2=cmpL l2 l1:=rfl;rw [hr];clear hr;go_enter Tryz.func128,Tryz.ntmps128
  go_wp2_with fail
  refine (q1a _ _ _ _ _ _ _ ((Hs2.out.alloc _).alloc _) ((Hs1.out.alloc _).alloc _)).mono ?_;rintro e w1 ⟨rfl,hb⟩;have Hb:=Lib.hid (q0a (blw2 _ _ _) hb);clear hb;go_wp2
  go_ret
  exact ⟨rfl,Hb.out⟩
end Go.Proofs.YtgnjhlnolihgcaaGreat
namespace Go.Proofs.YtgnjhlnolihgcaaGreat
open Go.RowKit
attribute [local go_sem ↓] Go.wp_at_zero Go.wp_at_succ
theorem Wcs.two {w:World} {b:Nat} {n1 n2:Bool} {A1 A2:Option Addr} {l1 l2:List Nat} {c1 c2:Nat} (hs1:Sl w A1 l1 c1) (hs2:Sl w A2 l2 c2) (hb:b=w.heap.size) :
  Wcs (w.alloc (.cells #[.bool n1,.slice A1 l1.length c1,.bool n2,.slice A2 l2.length c2] 46)) b [⟨n1,A1,l1,c1⟩,⟨n2,A2,l2,c2⟩]:=by
 subst hb;intro i v hv
 match i,hv with
 | 0,hv=>
  simp only [List.getElem?_cons_zero,Option.some.injEq] at hv;subst hv;exact ⟨by simp,by simp,hs1.alloc _⟩
 | 1,hv=>
  simp only [List.getElem?_cons_succ,List.getElem?_cons_zero,Option.some.injEq] at hv;subst hv;exact ⟨by simp,by simp,hs2.alloc _⟩
theorem q1i (v u:WV):chkW [v,u]=chk2 v.neg v.l u.neg u.l:=rfl
theorem cmp_any (n1 n2:Bool) (A1 A2:Option Addr) (l1 l2:List Nat) (c1 c2:Nat) (w:World) (hs1:Sl w A1 l1 c1) (hs2:Sl w A2 l2 c2) :
  Calls Tryz.prog 78 #[.agg #[.bool n1,.slice A1 l1.length c1],.agg #[.bool n2,.slice A2 l2.length c2]] w fun e w'=>e=.returned (.tuple #[.int .i64 (cmpS n1 l1 n2 l2).1,.int .i64 (cmpS n1 l1 n2 l2).2])∧Below w.heap.size w w':=by
 have hl1:=hs1.lim;have hl2:=hs2.lim;have Hs1:=Lib.hid hs1;have Hs2:=Lib.hid hs2;clear hs1 hs2;cases hbad:badL n1 l1 || badL n2 l2
 ·have hr:cmpS n1 l1 n2 l2=(cmpW n1 l1 n2 l2,0):=by
   have h:=Bool.or_eq_false_iff.1 hbad;rw [cmpS,hbad,if_neg (by simp),cmpW_good hl1 hl2 h.1 h.2]
  have hc:=chk2_good hbad;rw [hr];clear hr hbad hl1 hl2;go_enter Tryz.func78,Tryz.ntmps78
  go_wp2_with fail
  refine (q0h _ [⟨n1,A1,l1,c1⟩,⟨n2,A2,l2,c2⟩] (by simp) _ ?hc).mono ?_
  case hc=>exact Wcs.two ((Hs1.out.alloc _).alloc _) ((Hs2.out.alloc _).alloc _) (by simp)
  rintro e w1 ⟨rfl,hb⟩;rw [q1i];have hs1':=(((Hs1.out.alloc _).alloc _).alloc _).below hb;have hs2':=(((Hs2.out.alloc _).alloc _).alloc _).below hb;have q0:w1.cell? ⟨w.heap.size,0,none⟩=some (.bool n1):=q0b hb (by go_simp);have q1:w1.cell? ⟨w.heap.size,1,none⟩=some (.slice A1 l1.length c1):=q0b hb (by go_simp);have q2:w1.cell? ⟨w.heap.size+1,0,none⟩=some (.bool n2):=q0b hb (by go_simp);have q3:w1.cell? ⟨w.heap.size+1,1,none⟩=some (.slice A2 l2.length c2):=q0b hb (by go_simp);have Hb:=Lib.hid (q0a (blw3 _ _ _ _) hb);have Hs1':=Lib.hid hs1';have Hs2':=Lib.hid hs2';clear hb hs1' hs2';go_wp2_with fail
  refine (to_any _ _ _ _ _ _ _ _ _ Hs1'.out Hs2'.out).mono ?_;rintro e w2 ⟨rfl,hb2⟩;have Hb2:=Lib.hid hb2;clear hb2;go_wp2
  go_ret2
  exact ⟨rfl,q0a Hb.out Hb2.out⟩
 ·have hr:cmpS n1 l1 n2 l2=(0,8):=(by rw [cmpS,hbad,if_pos rfl]);have hc:=chk2_bad hbad;rw [hr];clear hr hbad;go_enter Tryz.func78,Tryz.ntmps78
  go_wp2_with fail
  refine (q0h _ [⟨n1,A1,l1,c1⟩,⟨n2,A2,l2,c2⟩] (by simp) _ ?hc).mono ?_
  case hc=>exact Wcs.two ((Hs1.out.alloc _).alloc _) ((Hs2.out.alloc _).alloc _) (by simp)
  rintro e w1 ⟨rfl,hb⟩;rw [q1i];have Hb:=Lib.hid (q0a (blw3 _ _ _ _) hb);clear hb;go_wp2
  go_ret2
  exact ⟨rfl,Hb.out⟩
end Go.Proofs.YtgnjhlnolihgcaaGreat
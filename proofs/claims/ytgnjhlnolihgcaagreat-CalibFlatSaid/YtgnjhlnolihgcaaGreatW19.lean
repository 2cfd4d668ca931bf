import Derived.Test.YtgnjhlnolihgcaaGreatW6
import Derived.Test.YtgnjhlnolihgcaaGreatW17
set_option maxHeartbeats 2000000
set_option maxRecDepth 100000
namespace Go.Proofs.YtgnjhlnolihgcaaGreat
open Lib renaming hid → lh
open Go.RowKit
attribute [local go_sem ↓] Go.wp_at_zero Go.wp_at_succ
theorem wadd_any (n1 n2:Bool) (A1 A2:Option Addr) (l1 l2:List Nat) (c1 c2:Nat) (w:World) (hs1:Sl w A1 l1 c1) (hs2:Sl w A2 l2 c2) :
  Calls Tryz.prog 134 #[.agg #[.bool n1,.slice A1 l1.length c1],.agg #[.bool n2,.slice A2 l2.length c2]] w (WRes (addS n1 l1 n2 l2) w):=by
 have Hs1:=lh hs1;have Hs2:=lh hs2;clear hs1 hs2;cases hbad:badL n1 l1 || badL n2 l2
 ·have hg:=Bool.or_eq_false_iff.1 hbad;obtain ⟨k1,m1,p1⟩:=q0k Hs1.out.lim hg.1;obtain ⟨k2,m2,p2⟩:=q0k Hs2.out.lim hg.2;have Hk1:=lh k1;have Hk2:=lh k2;have hc:=chk2_good hbad
  have Hres:Hid (outZ (zv n1 l1+zv n2 l2)=addS n1 l1 n2 l2):=by
   unfold Hid addS;rw [hbad,if_neg (by simp)]
  generalize addS n1 l1 n2 l2=r at *;clear hg hbad k1 k2 p1 p2;go_enter Tryz.func134,Tryz.ntmps134
  go_wp2_with fail
  refine (q0h _ [⟨n1,A1,l1,c1⟩,⟨n2,A2,l2,c2⟩] (by simp) _ ?hc).mono ?_
  case hc=>exact Wcs.two (((Hs1.out.alloc _).alloc _).alloc _) (((Hs2.out.alloc _).alloc _).alloc _) (by simp)
  rintro e w1 ⟨rfl,hb⟩;rw [q1i];have K1:Hid (Cw w1 w.heap.size n1 A1 l1.length c1):=⟨q0b hb (by go_simp),q0b hb (by go_simp)⟩;have K2:Hid (Cw w1 (w.heap.size+1) n2 A2 l2.length c2):=⟨q0b hb (by go_simp),q0b hb (by go_simp)⟩;have R:Hid (Cw w1 (w.heap.size+1+1) false none 0 0):=⟨q0b hb (by go_simp),q0b hb (by go_simp)⟩;have F:Hid (Fw w1 (w.heap.size+1+1)):=⟨(hb.frozen (by simp <;> omega)).trans (by go_simp),(hb.frozen (by simp <;> omega)).trans (by go_simp)⟩;have F2:Hid (Fw w1 (w.heap.size+1)):=⟨(hb.frozen (by simp <;> omega)).trans (by go_simp),(hb.frozen (by simp <;> omega)).trans (by go_simp)⟩;have B:Hid (Below w.heap.size w w1):=q0a (blw4 _ _ _ _ _) hb;have S1:Hid (Sl w1 A1 l1 c1):=((((Hs1.out.alloc _).alloc _).alloc _).alloc _).below hb;have S2:Hid (Sl w1 A2 l2 c2):=((((Hs2.out.alloc _).alloc _).alloc _).alloc _).below hb;clear hb;obtain ⟨q0,q1⟩:=K1.out;obtain ⟨q2,q3⟩:=K2.out;go_wp2_with fail
  refine (add_any n1 n2 _ _ _ _ _ _ _ S1.out S2.out Hk1.out Hk2.out (by omega) (by omega)).mono ?_;rw [Hres.out];rintro e w2 ⟨A6,c6,rfl,hs6,hb6⟩;clear q0 q1 q2 q3;obtain ⟨f0,f1⟩:=Fw.keep F.out R.out hb6;obtain ⟨r0,r1⟩:=Cw.keep R.out hb6;have B2:=lh (q0a B.out hb6);have Hs6:=lh hs6;clear hb6 hs6;go_wp2
  exact bodyPost_ret (v:=.tuple #[.agg #[.bool r.1.1,.slice A6 r.1.2.length c6],.int .i64 r.2]) (by simp [results,Tryz.results134,go_sem,r0,r1]) rfl (q0m Hs6.out ⟨r0,r1⟩ B2.out (by omega) _ _)
 ·have hr:addS n1 l1 n2 l2=((false,[]),8):=(by rw [addS,hbad,if_pos rfl]);have hc:=chk2_bad hbad;rw [hr];clear hr hbad;go_enter Tryz.func134,Tryz.ntmps134
  go_wp2_with fail
  refine (q0h _ [⟨n1,A1,l1,c1⟩,⟨n2,A2,l2,c2⟩] (by simp) _ ?hc).mono ?_
  case hc=>exact Wcs.two (((Hs1.out.alloc _).alloc _).alloc _) (((Hs2.out.alloc _).alloc _).alloc _) (by simp)
  rintro e w1 ⟨rfl,hb⟩;rw [q1i];have K1:Hid (Cw w1 w.heap.size n1 A1 l1.length c1):=⟨q0b hb (by go_simp),q0b hb (by go_simp)⟩;have K2:Hid (Cw w1 (w.heap.size+1) n2 A2 l2.length c2):=⟨q0b hb (by go_simp),q0b hb (by go_simp)⟩;have R:Hid (Cw w1 (w.heap.size+1+1) false none 0 0):=⟨q0b hb (by go_simp),q0b hb (by go_simp)⟩;have F:Hid (Fw w1 (w.heap.size+1+1)):=⟨(hb.frozen (by simp <;> omega)).trans (by go_simp),(hb.frozen (by simp <;> omega)).trans (by go_simp)⟩;have F2:Hid (Fw w1 (w.heap.size+1)):=⟨(hb.frozen (by simp <;> omega)).trans (by go_simp),(hb.frozen (by simp <;> omega)).trans (by go_simp)⟩;have B:Hid (Below w.heap.size w w1):=q0a (blw4 _ _ _ _ _) hb;have S1:Hid (Sl w1 A1 l1 c1):=((((Hs1.out.alloc _).alloc _).alloc _).alloc _).below hb;have S2:Hid (Sl w1 A2 l2 c2):=((((Hs2.out.alloc _).alloc _).alloc _).alloc _).below hb;clear hb;obtain ⟨q0,q1⟩:=K1.out;obtain ⟨q2,q3⟩:=K2.out;clear q0 q1 q2 q3;obtain ⟨f0,f1⟩:=F.out;obtain ⟨r0,r1⟩:=R.out;have B2:=B;go_wp2
  exact bodyPost_ret (v:=.tuple #[.agg #[.bool false,.slice none 0 0],.int .i64 8]) (by simp [results,Tryz.results134,go_sem,r0,r1]) rfl (q0m (r:=((false,[]),8)) (Sl.nil _ none 0) ⟨r0,r1⟩ B2.out (by omega) _ _)
theorem Sl.set1 {w:World} {A:Option Addr} {l:List Nat} {c g:Nat} {n:Bool} (h:Sl w A l c) (q:w.cell? ⟨g,0,none⟩=some (.bool n)) (x:Value):Sl (w.setCell ⟨g,0,none⟩ x) A l c:=by
 refine ⟨fun hl=>?_,h.lim,h.le,h.len⟩;obtain ⟨b,o,e,hc⟩:=h.rd hl;refine ⟨b,o,e,fun i hi=>?_⟩;rw [World.cell?_setCell_other _ _ _ _ (fun he=>?_)]
 ·exact hc i hi
 ·have:=hc i hi;rw [← he,q] at this;cases this
theorem wmul_any (n1 n2:Bool) (A1 A2:Option Addr) (l1 l2:List Nat) (c1 c2:Nat) (w:World) (hs1:Sl w A1 l1 c1) (hs2:Sl w A2 l2 c2) :
  Calls Tryz.prog 72 #[.agg #[.bool n1,.slice A1 l1.length c1],.agg #[.bool n2,.slice A2 l2.length c2]] w (WRes (mulS n1 l1 n2 l2) w):=by
 have Hs1:=lh hs1;have Hs2:=lh hs2;clear hs1 hs2;cases hbad:badL n1 l1 || badL n2 l2
 ·have hg:=Bool.or_eq_false_iff.1 hbad;obtain ⟨k1,m1,p1⟩:=q0k Hs1.out.lim hg.1;obtain ⟨k2,m2,p2⟩:=q0k Hs2.out.lim hg.2;have Hk1:=lh k1;have Hk2:=lh k2;have hc:=chk2_good hbad
  have Hres:Hid (outN (!(n1 == n2)) (val l1 * val l2)=mulS n1 l1 n2 l2):=by
   unfold Hid mulS;rw [hbad,if_neg (by simp)];exact mul_zv n1 n2 l1 l2
  generalize mulS n1 l1 n2 l2=r at *;clear hg hbad k1 k2 p1 p2;go_enter Tryz.func72,Tryz.ntmps72
  go_wp2_with fail
  refine (q0h _ [⟨n1,A1,l1,c1⟩,⟨n2,A2,l2,c2⟩] (by simp) _ ?hc).mono ?_
  case hc=>exact Wcs.two (((Hs1.out.alloc _).alloc _).alloc _) (((Hs2.out.alloc _).alloc _).alloc _) (by simp)
  rintro e w1 ⟨rfl,hb⟩;rw [q1i];have K1:Hid (Cw w1 w.heap.size n1 A1 l1.length c1):=⟨q0b hb (by go_simp),q0b hb (by go_simp)⟩;have K2:Hid (Cw w1 (w.heap.size+1) n2 A2 l2.length c2):=⟨q0b hb (by go_simp),q0b hb (by go_simp)⟩;have R:Hid (Cw w1 (w.heap.size+1+1) false none 0 0):=⟨q0b hb (by go_simp),q0b hb (by go_simp)⟩;have F:Hid (Fw w1 (w.heap.size+1+1)):=⟨(hb.frozen (by simp <;> omega)).trans (by go_simp),(hb.frozen (by simp <;> omega)).trans (by go_simp)⟩;have F2:Hid (Fw w1 (w.heap.size+1)):=⟨(hb.frozen (by simp <;> omega)).trans (by go_simp),(hb.frozen (by simp <;> omega)).trans (by go_simp)⟩;have B:Hid (Below w.heap.size w w1):=q0a (blw4 _ _ _ _ _) hb;have S1:Hid (Sl w1 A1 l1 c1):=((((Hs1.out.alloc _).alloc _).alloc _).alloc _).below hb;have S2:Hid (Sl w1 A2 l2 c2):=((((Hs2.out.alloc _).alloc _).alloc _).alloc _).below hb;clear hb;obtain ⟨q0,q1⟩:=K1.out;obtain ⟨q2,q3⟩:=K2.out;go_wp2
  have J0:=lh (And.intro K1.out.1 (And.intro K1.out.2 K2.out));clear q0 q1 q2 q3
  go_region_held3 (fun w'=>w'.cell? ⟨w.heap.size,0,none⟩=some (.bool n1)∧w'.cell? ⟨w.heap.size,1,none⟩=some (.slice A1 l1.length c1)∧w'.cell? ⟨w.heap.size+1,0,none⟩=some (.bool n2)∧w'.cell? ⟨w.heap.size+1,1,none⟩=some (.slice A2 l2.length c2))
   (first | exact set4 J2.out (by omega) (by omega) _ _ | exact J2.out | exact J1.out | exact J0.out)
   (first
    | (go_at_call 122; refine (times_any _ _ _ _ _ _ _ S1.out.drew S2.out.drew (by omega) (by omega)).mono ?_; rintro e v1 ⟨A5,c5,r5,rfl,hs5,hv5,hn5,hb5⟩; have Hs5:=lh hs5; have Hv5:=lh hv5; have J1:=lh (keep4 hb5 J0.out); have R1:=lh (Cw.keep R.out.drew hb5); have F1:=lh (Fw.keep F.out.drew R.out.drew hb5); have B1:=lh (q0a B.out.drew hb5); clear hb5)
    | (go_at_call 117; refine (q0v _ _ _ _ _ Hs5.out).mono ?_; rw [Hv5.out,Hres.out]; rintro e v2 ⟨A6,c6,rfl,hs6,hb6⟩; have Hs6:=lh hs6; have J2:=lh (keep4 hb6 J1.out); have B2:=lh (q0a B1.out hb6); obtain ⟨f0,f1⟩:=Fw.keep F1.out R1.out hb6; obtain ⟨r0,r1⟩:=Cw.keep R1.out hb6; clear hs6 hb6))
  go_wp2
  exact bodyPost_ret (v:=.tuple #[.agg #[.bool r.1.1,.slice A6 r.1.2.length c6],.int .i64 r.2]) (by simp [results,Tryz.results72,go_sem,r0,r1]) rfl (q0m Hs6.out ⟨r0,r1⟩ B2.out (by omega) _ _)
 ·have hr:mulS n1 l1 n2 l2=((false,[]),8):=(by rw [mulS,hbad,if_pos rfl]);have hc:=chk2_bad hbad;rw [hr];clear hr hbad;go_enter Tryz.func72,Tryz.ntmps72
  go_wp2_with fail
  refine (q0h _ [⟨n1,A1,l1,c1⟩,⟨n2,A2,l2,c2⟩] (by simp) _ ?hc).mono ?_
  case hc=>exact Wcs.two (((Hs1.out.alloc _).alloc _).alloc _) (((Hs2.out.alloc _).alloc _).alloc _) (by simp)
  rintro e w1 ⟨rfl,hb⟩;rw [q1i];have K1:Hid (Cw w1 w.heap.size n1 A1 l1.length c1):=⟨q0b hb (by go_simp),q0b hb (by go_simp)⟩;have K2:Hid (Cw w1 (w.heap.size+1) n2 A2 l2.length c2):=⟨q0b hb (by go_simp),q0b hb (by go_simp)⟩;have R:Hid (Cw w1 (w.heap.size+1+1) false none 0 0):=⟨q0b hb (by go_simp),q0b hb (by go_simp)⟩;have F:Hid (Fw w1 (w.heap.size+1+1)):=⟨(hb.frozen (by simp <;> omega)).trans (by go_simp),(hb.frozen (by simp <;> omega)).trans (by go_simp)⟩;have F2:Hid (Fw w1 (w.heap.size+1)):=⟨(hb.frozen (by simp <;> omega)).trans (by go_simp),(hb.frozen (by simp <;> omega)).trans (by go_simp)⟩;have B:Hid (Below w.heap.size w w1):=q0a (blw4 _ _ _ _ _) hb;have S1:Hid (Sl w1 A1 l1 c1):=((((Hs1.out.alloc _).alloc _).alloc _).alloc _).below hb;have S2:Hid (Sl w1 A2 l2 c2):=((((Hs2.out.alloc _).alloc _).alloc _).alloc _).below hb;clear hb;obtain ⟨q0,q1⟩:=K1.out;obtain ⟨q2,q3⟩:=K2.out;clear q0 q1 q2 q3;obtain ⟨f0,f1⟩:=F.out;obtain ⟨r0,r1⟩:=R.out;have B2:=B;go_wp2
  exact bodyPost_ret (v:=.tuple #[.agg #[.bool false,.slice none 0 0],.int .i64 8]) (by simp [results,Tryz.results72,go_sem,r0,r1]) rfl (q0m (r:=((false,[]),8)) (Sl.nil _ none 0) ⟨r0,r1⟩ B2.out (by omega) _ _)
end Go.Proofs.YtgnjhlnolihgcaaGreat
import Derived.Test.YtgnjhlnolihgcaaGreatW11
import Derived.Test.YtgnjhlnolihgcaaGreatDown
set_option maxHeartbeats 2000000
set_option maxRecDepth 100000
namespace Go.Proofs.YtgnjhlnolihgcaaGreat
open Lib renaming hid → lh
open Go.RowKit
attribute [local go_sem ↓] Go.wp_at_zero Go.wp_at_succ
theorem add_any (n1 n2:Bool) (A1 A2:Option Addr) (l1 l2:List Nat) (c1 c2:Nat) (w:World) (hs1:Sl w A1 l1 c1) (hs2:Sl w A2 l2 c2) (k1:Canon l1) (k2:Canon l2) (hl1:l1.length≤10000) (hl2:l2.length≤10000) :
  Calls Tryz.prog 121 #[.agg #[.bool n1,.slice A1 l1.length c1],.agg #[.bool n2,.slice A2 l2.length c2]] w (WRes (outZ (zv n1 l1+zv n2 l2)) w):=by
 have Hs1:=lh hs1;have Hs2:=lh hs2;have Hk1:=lh k1;have Hk2:=lh k2;clear hs1 hs2 k1 k2;generalize hr:outZ (zv n1 l1+zv n2 l2)=r;by_cases hn:n1=n2
 ·subst hn;have Hres:Hid (outN n1 (val l1+val l2)=r):=(by unfold Hid; rw [← hr]; exact add_same _ _ _);have hbn:(n1 == n1)=true:=beq_self_eq_true n1;clear hr;go_enter Tryz.func121,Tryz.ntmps121
  go_wp2_with fail
  refine (q1a _ _ _ _ _ _ _ (((Hs1.out.alloc _).alloc _).alloc _) (((Hs2.out.alloc _).alloc _).alloc _)).mono ?_;rintro e w1 ⟨rfl,hb⟩;have K1:Hid (Cw w1 w.heap.size n1 A1 l1.length c1):=⟨q0b hb (by go_simp),q0b hb (by go_simp)⟩;have K2:Hid (Cw w1 (w.heap.size+1) n1 A2 l2.length c2):=⟨q0b hb (by go_simp),q0b hb (by go_simp)⟩;have R:Hid (Cw w1 (w.heap.size+1+1) false none 0 0):=⟨q0b hb (by go_simp),q0b hb (by go_simp)⟩;have F:Hid (Fw w1 (w.heap.size+1+1)):=⟨(hb.frozen (by simp <;> omega)).trans (by go_simp),(hb.frozen (by simp <;> omega)).trans (by go_simp)⟩;have B:Hid (Below w.heap.size w w1):=q0a (blw3 _ _ _ _) hb;have S1:Hid (Sl w1 A1 l1 c1):=(((Hs1.out.alloc _).alloc _).alloc _).below hb;have S2:Hid (Sl w1 A2 l2 c2):=(((Hs2.out.alloc _).alloc _).alloc _).below hb;clear hb;obtain ⟨q0,q1⟩:=K1.out;obtain ⟨q2,q3⟩:=K2.out;go_wp2
  have J0:=lh (And.intro K1.out.1 (And.intro K1.out.2 K2.out));clear q0 q1 q2 q3
  go_region_held3 (fun w'=>w'.cell? ⟨w.heap.size,0,none⟩=some (.bool n1)∧w'.cell? ⟨w.heap.size,1,none⟩=some (.slice A1 l1.length c1)∧w'.cell? ⟨w.heap.size+1,0,none⟩=some (.bool n1)∧w'.cell? ⟨w.heap.size+1,1,none⟩=some (.slice A2 l2.length c2))
   (first | exact set4 J2.out (by omega) (by omega) _ _ | exact J2.out | exact J1.out | exact J0.out)
   (first
    | (go_at_call 162; refine (plus_any _ _ _ _ _ _ _ S1.out.drew S2.out.drew (by omega) (by omega)).mono ?_; rintro e v1 ⟨A5,c5,r5,rfl,hs5,hv5,hn5,hb5⟩; have Hs5:=lh hs5; have Hv5:=lh hv5; have J1:=lh (keep4 hb5 J0.out); have R1:=lh (Cw.keep R.out.drew hb5); have F1:=lh (Fw.keep F.out.drew R.out.drew hb5); have B1:=lh (q0a B.out.drew hb5); clear hb5)
    | (go_at_call 117; refine (q0v _ _ _ _ _ Hs5.out).mono ?_; rw [Hv5.out,Hres.out]; rintro e v2 ⟨A6,c6,rfl,hs6,hb6⟩; have Hs6:=lh hs6; have J2:=lh (keep4 hb6 J1.out); have B2:=lh (q0a B1.out hb6); obtain ⟨f0,f1⟩:=Fw.keep F1.out R1.out hb6; obtain ⟨r0,r1⟩:=Cw.keep R1.out hb6; clear hs6 hb6))
  go_wp2
  exact bodyPost_ret (v:=.tuple #[.agg #[.bool r.1.1,.slice A6 r.1.2.length c6],.int .i64 r.2]) (by simp [results,Tryz.results121,go_sem,r0,r1]) rfl (q0m Hs6.out ⟨r0,r1⟩ B2.out (by omega) _ _)
 ·by_cases hv:val l2≤val l1
  ·have Hres:Hid (outN n1 (val l1 - val l2)=r):=(by unfold Hid; rw [← hr]; exact add_ge hn hv);have hbn:(n1 == n2)=false:=(by rw [beq_eq_false_iff_ne]; exact hn);have hc0:=cmpL_ge Hk1.out Hk2.out hv;have hll:=q1b Hk2.out Hk1.out hv;have Hv:=lh hv;clear hv;clear hr;go_enter Tryz.func121,Tryz.ntmps121
   go_wp2_with fail
   refine (q1a _ _ _ _ _ _ _ (((Hs1.out.alloc _).alloc _).alloc _) (((Hs2.out.alloc _).alloc _).alloc _)).mono ?_;rintro e w1 ⟨rfl,hb⟩;have K1:Hid (Cw w1 w.heap.size n1 A1 l1.length c1):=⟨q0b hb (by go_simp),q0b hb (by go_simp)⟩;have K2:Hid (Cw w1 (w.heap.size+1) n2 A2 l2.length c2):=⟨q0b hb (by go_simp),q0b hb (by go_simp)⟩;have R:Hid (Cw w1 (w.heap.size+1+1) false none 0 0):=⟨q0b hb (by go_simp),q0b hb (by go_simp)⟩;have F:Hid (Fw w1 (w.heap.size+1+1)):=⟨(hb.frozen (by simp <;> omega)).trans (by go_simp),(hb.frozen (by simp <;> omega)).trans (by go_simp)⟩;have B:Hid (Below w.heap.size w w1):=q0a (blw3 _ _ _ _) hb;have S1:Hid (Sl w1 A1 l1 c1):=(((Hs1.out.alloc _).alloc _).alloc _).below hb;have S2:Hid (Sl w1 A2 l2 c2):=(((Hs2.out.alloc _).alloc _).alloc _).below hb;clear hb;obtain ⟨q0,q1⟩:=K1.out;obtain ⟨q2,q3⟩:=K2.out;go_wp2
   have J0:=lh (And.intro K1.out.1 (And.intro K1.out.2 K2.out));clear q0 q1 q2 q3
   go_region_held3 (fun w'=>w'.cell? ⟨w.heap.size,0,none⟩=some (.bool n1)∧w'.cell? ⟨w.heap.size,1,none⟩=some (.slice A1 l1.length c1)∧w'.cell? ⟨w.heap.size+1,0,none⟩=some (.bool n2)∧w'.cell? ⟨w.heap.size+1,1,none⟩=some (.slice A2 l2.length c2))
    (first | exact set4 J2.out (by omega) (by omega) _ _ | exact J2.out | exact J1.out | exact J0.out)
    (first
     | (go_at_call 163; refine (minus_any _ _ _ _ _ _ _ S1.out.drew S2.out.drew hll (by omega) Hv.out).mono ?_; rintro e v1 ⟨A5,c5,r5,rfl,hs5,hv5,hn5,hb5⟩; have Hs5:=lh hs5; have Hv5:=lh hv5; have J1:=lh (keep4 hb5 J0.out); have R1:=lh (Cw.keep R.out.drew hb5); have F1:=lh (Fw.keep F.out.drew R.out.drew hb5); have B1:=lh (q0a B.out.drew hb5); clear hb5)
     | (go_at_call 117; refine (q0v _ _ _ _ _ Hs5.out).mono ?_; rw [Hv5.out,Hres.out]; rintro e v2 ⟨A6,c6,rfl,hs6,hb6⟩; have Hs6:=lh hs6; have J2:=lh (keep4 hb6 J1.out); have B2:=lh (q0a B1.out hb6); obtain ⟨f0,f1⟩:=Fw.keep F1.out R1.out hb6; obtain ⟨r0,r1⟩:=Cw.keep R1.out hb6; clear hs6 hb6))
   go_wp2
   exact bodyPost_ret (v:=.tuple #[.agg #[.bool r.1.1,.slice A6 r.1.2.length c6],.int .i64 r.2]) (by simp [results,Tryz.results121,go_sem,r0,r1]) rfl (q0m Hs6.out ⟨r0,r1⟩ B2.out (by omega) _ _)
  ·have Hres:Hid (outN n2 (val l2 - val l1)=r):=(by unfold Hid; rw [← hr]; exact add_lt hn (by omega));have hbn:(n1 == n2)=false:=(by rw [beq_eq_false_iff_ne]; exact hn);have Hcmp:=lh (cmpL_lt Hk1.out Hk2.out (Nat.lt_of_not_le hv));have hll:=q1b Hk1.out Hk2.out (by omega);have Hv:Hid (val l1≤val l2):=(by unfold Hid; omega);clear hv;clear hr;go_enter Tryz.func121,Tryz.ntmps121
   go_wp2_with fail
   refine (q1a _ _ _ _ _ _ _ (((Hs1.out.alloc _).alloc _).alloc _) (((Hs2.out.alloc _).alloc _).alloc _)).mono ?_;rintro e w1 ⟨rfl,hb⟩;rw [Hcmp.out];have K1:Hid (Cw w1 w.heap.size n1 A1 l1.length c1):=⟨q0b hb (by go_simp),q0b hb (by go_simp)⟩;have K2:Hid (Cw w1 (w.heap.size+1) n2 A2 l2.length c2):=⟨q0b hb (by go_simp),q0b hb (by go_simp)⟩;have R:Hid (Cw w1 (w.heap.size+1+1) false none 0 0):=⟨q0b hb (by go_simp),q0b hb (by go_simp)⟩;have F:Hid (Fw w1 (w.heap.size+1+1)):=⟨(hb.frozen (by simp <;> omega)).trans (by go_simp),(hb.frozen (by simp <;> omega)).trans (by go_simp)⟩;have B:Hid (Below w.heap.size w w1):=q0a (blw3 _ _ _ _) hb;have S1:Hid (Sl w1 A1 l1 c1):=(((Hs1.out.alloc _).alloc _).alloc _).below hb;have S2:Hid (Sl w1 A2 l2 c2):=(((Hs2.out.alloc _).alloc _).alloc _).below hb;clear hb;obtain ⟨q0,q1⟩:=K1.out;obtain ⟨q2,q3⟩:=K2.out;go_wp2
   have J0:=lh (And.intro K1.out.1 (And.intro K1.out.2 K2.out));clear q0 q1 q2 q3
   go_region_held3 (fun w'=>w'.cell? ⟨w.heap.size,0,none⟩=some (.bool n1)∧w'.cell? ⟨w.heap.size,1,none⟩=some (.slice A1 l1.length c1)∧w'.cell? ⟨w.heap.size+1,0,none⟩=some (.bool n2)∧w'.cell? ⟨w.heap.size+1,1,none⟩=some (.slice A2 l2.length c2))
    (first | exact set4 J2.out (by omega) (by omega) _ _ | exact J2.out | exact J1.out | exact J0.out)
    (first
     | (go_at_call 163; refine (minus_any _ _ _ _ _ _ _ S2.out.drew S1.out.drew hll (by omega) Hv.out).mono ?_; rintro e v1 ⟨A5,c5,r5,rfl,hs5,hv5,hn5,hb5⟩; have Hs5:=lh hs5; have Hv5:=lh hv5; have J1:=lh (keep4 hb5 J0.out); have R1:=lh (Cw.keep R.out.drew hb5); have F1:=lh (Fw.keep F.out.drew R.out.drew hb5); have B1:=lh (q0a B.out.drew hb5); clear hb5)
     | (go_at_call 117; refine (q0v _ _ _ _ _ Hs5.out).mono ?_; rw [Hv5.out,Hres.out]; rintro e v2 ⟨A6,c6,rfl,hs6,hb6⟩; have Hs6:=lh hs6; have J2:=lh (keep4 hb6 J1.out); have B2:=lh (q0a B1.out hb6); obtain ⟨f0,f1⟩:=Fw.keep F1.out R1.out hb6; obtain ⟨r0,r1⟩:=Cw.keep R1.out hb6; clear hs6 hb6))
   go_wp2
   exact bodyPost_ret (v:=.tuple #[.agg #[.bool r.1.1,.slice A6 r.1.2.length c6],.int .i64 r.2]) (by simp [results,Tryz.results121,go_sem,r0,r1]) rfl (q0m Hs6.out ⟨r0,r1⟩ B2.out (by omega) _ _)
end Go.Proofs.YtgnjhlnolihgcaaGreat
import Derived.Test.YtgnjhlnolihgcaaGreatMg10
import Derived.Test.YtgnjhlnolihgcaaGreatEph4
import Derived.Test.YtgnjhlnolihgcaaGreatMg15
set_option maxHeartbeats 8000000
set_option maxRecDepth 100000
namespace Go.Proofs.YtgnjhlnolihgcaaGreat
open Lib renaming hid → lh
open Go.RowKit
attribute [local go_sem ↓] Go.wp_at_zero Go.wp_at_succ
def stV (v:V6):Nat→Array Value
 | 0=>#[.int .i64 0,.int .i64 0,.int .i64 0,.int .i64 0,.int .i64 0,.int .i64 0]
 | 1=>#[.int .i64 v.l0,.int .i64 v.h0,.int .i64 0,.int .i64 0,.int .i64 0,.int .i64 0]
 | 2=>#[.int .i64 v.l0,.int .i64 v.h0,.int .i64 v.l1,.int .i64 v.h1,.int .i64 0,.int .i64 0]
 | _=>#[.int .i64 v.l0,.int .i64 v.h0,.int .i64 v.l1,.int .i64 v.h1,.int .i64 v.l2,.int .i64 v.h2]
section
variable {w w':World} {g g' b:Nat} {ty:TypeId} {a0 a1 a2 a3 a4 a5:Value}
theorem BlkV.put6 (h:BlkV w g ty #[a0,a1,a2,a3,a4,a5]) (x y z u v r:Value):BlkV ((((((w.setCell ⟨g,0,none⟩ x).setCell ⟨g,1,none⟩ y).setCell ⟨g,2,none⟩ z).setCell ⟨g,3,none⟩ u).setCell ⟨g,4,none⟩ v).setCell ⟨g,5,none⟩ r) g ty #[x,y,z,u,v,r]:=
 (((((h.put 0 x rfl).put 1 y rfl).put 2 z rfl).put 3 u rfl).put 4 v rfl).put 5 r rfl
theorem q1d {a:World} (h:Below b a w) (hg:b≤g) (x y z u v r:Value):Below b a ((((((w.setCell ⟨g,0,none⟩ x).setCell ⟨g,1,none⟩ y).setCell ⟨g,2,none⟩ z).setCell ⟨g,3,none⟩ u).setCell ⟨g,4,none⟩ v).setCell ⟨g,5,none⟩ r):=
 (below_set5 h hg x y z u v).setCell (p:=⟨g,5,none⟩) hg r
theorem below_set2 {a:World} {i j:Nat} (h:Below b a w) (hg:b≤g) (x y:Value):Below b a ((w.setCell ⟨g,i,none⟩ x).setCell ⟨g,j,none⟩ y):=(h.setCell (p:=⟨g,i,none⟩) hg x).setCell (p:=⟨g,j,none⟩) hg y
end
theorem bxq_set {w:World} {g g' i:Nat} {q:Rat} {A B:Option Addr} {c d:Nat} {n:Int} (h:BxQ w g q A c B d) (hne:g≠g') (hq:w.cell? ⟨g',i,none⟩=some (.int .i64 n)) (x:Value):BxQ (w.setCell ⟨g',i,none⟩ x) g q A c B d:=
 ⟨⟨(far_cell hne 0 i w x).trans h.k.1,(far_cell hne 1 i w x).trans h.k.2.1,(far_cell hne 2 i w x).trans h.k.2.2.1,(far_cell hne 3 i w x).trans h.k.2.2.2⟩,
  ⟨by rw [World.frozen?_setCell]; exact h.f.1,by rw [World.frozen?_setCell]; exact h.f.2.1,by rw [World.frozen?_setCell]; exact h.f.2.2.1,by rw [World.frozen?_setCell]; exact h.f.2.2.2⟩,
  h.s.setV hq (fun n e=>by cases e) x,h.t.setV hq (fun n e=>by cases e) x⟩
theorem seg_parts {s:SG} (h:OkSeg s):s.F < s.T ∧ -5000000000000000≤s.F∧s.F≤5000000000000000 ∧ -5000000000000000≤s.T∧s.T≤5000000000000000∧listB s.l0=true∧listB s.l1=true∧listB s.l2=true:=by
 have hv:=h.v;unfold segB outB at hv;simp only [Bool.and_eq_true,decide_eq_true_eq,Bool.not_eq_true',Bool.or_eq_false_iff,decide_eq_false_iff_not] at hv;obtain ⟨⟨⟨⟨⟨h1,h2⟩,h3⟩,h4⟩,h5⟩,h6⟩:=hv;exact ⟨h1,by omega,by omega,by omega,by omega,h4,h5,h6⟩
theorem list_pos {l:List Int} (h:listB l=true):0 < l.length:=by
 cases l with
 | nil=>cases h
 | cons _ _=>simp
theorem few_x {s:SG} {t:Int} (h:s.F < s.T) (h1:s.F≤t) (h2:t≤s.T) (b1 : -5000000000000000≤s.F) (b2:s.T≤5000000000000000):Few 2 (xQ s t):=by
 unfold xQ;exact few_div (by omega) (by omega) (by omega)
theorem coord_q (l:List Int) (A:Option Addr) (cc B:Nat) (x:Rat) (Ax Bx:Option Addr) (cx dx:Nat) (w:World) (hl:SlI w B A l cc) (h0:listB l=true) (h6:l.length≤6) (hx:Few 2 x) (sx:Sl w Ax (frQ x).1.2 cx) (tx:Sl w Bx (frQ x).2.2 dx) :
  Calls Tryz.prog 168 #[.slice A l.length cc,.agg #[.bool (frQ x).1.1,.slice Ax (frQ x).1.2.length cx,.bool (frQ x).2.1,.slice Bx (frQ x).2.2.length dx]] w (fun e w'=>∃ A1 c1 B1 d1,e=.returned (.agg #[.bool (frQ (vlQ l x)).1.1,.slice A1 (frQ (vlQ l x)).1.2.length c1,.bool (frQ (vlQ l x)).2.1,.slice B1 (frQ (vlQ l x)).2.2.length d1])∧Sl w' A1 (frQ (vlQ l x)).1.2 c1∧Sl w' B1 (frQ (vlQ l x)).2.2 d1∧Below w.heap.size w w')∧Few 700 (vlQ l x):=by
 refine ⟨?_,(few_v (fun k=>few_two (hl.bdD k).1 (hl.bdD k).2) hx (j:=l.length) h6).s⟩;have h:=value_q l A cc x Ax Bx cx dx B w hl (list_pos h0) h6 hx sx tx;exact h.mono fun e w' ⟨A1,c1,B1,d1,e1,s1,t1,b1⟩=>⟨A1,c1,B1,d1,e1,s1,t1,b1⟩
theorem eplace_any (s:SG) (t:Int) (B:Nat) (w:World) (hs:OkS w B s) (hv:OkSeg s) (h1:s.F≤t) (h2:t≤s.T) :
  Calls Tryz.prog 131 #[.agg #[.int .i64 s.F,.int .i64 s.T,.slice s.A0 s.l0.length s.c0,.slice s.A1 s.l1.length s.c1,.slice s.A2 s.l2.length s.c2],.int .i64 t] w fun e w'=>e=.returned (.agg #[.int .i64 (plV s t).l0,.int .i64 (plV s t).h0,.int .i64 (plV s t).l1,.int .i64 (plV s t).h1,.int .i64 (plV s t).l2,.int .i64 (plV s t).h2])∧Below w.heap.size w w':=by
 obtain ⟨p1,p2,p3,p4,p5,q0,q1,q2⟩:=seg_parts hv;have FX:=lh (few_x p1 h1 h2 p2 p5);have n0:=hv.n0;have n1:=hv.n1;have n2:=hv.n2
 have HOF:Hid (∀ V,Calls Tryz.prog 31 #[.int .i64 (2 * t - s.F - s.T),.int .i64 (s.T - s.F)] V (FRes (frQ (xQ s t),0) V)):=fun V=>by
  have h:=of_any (2 * t - s.F - s.T) (s.T - s.F) (by omega) (by omega) (by omega) (by omega) V;rwa [of_q (by omega)] at h
 have S:=lh hs;have Q0:=lh q0;have Q1:=lh q1;have Q2:=lh q2;clear hs hv q0 q1 q2;obtain ⟨v,hvv⟩:∃ v,v=plV s t:=⟨_,rfl⟩;have V0:Hid (unS (vlQ s.l0 (xQ s t))=(v.l0,v.h0,(unS (vlQ s.l0 (xQ s t))).2.2)):=(by rw [hvv]; rfl);have V1:Hid (unS (vlQ s.l1 (xQ s t))=(v.l1,v.h1,(unS (vlQ s.l1 (xQ s t))).2.2)):=(by rw [hvv]; rfl);have V2:Hid (unS (vlQ s.l2 (xQ s t))=(v.l2,v.h2,(unS (vlQ s.l2 (xQ s t))).2.2)):=(by rw [hvv]; rfl);rw [← hvv];clear hvv;have r0 : -9223372036854775808≤2 * t∧2 * t≤9223372036854775807:=(by omega);have r1 : -9223372036854775808≤2 * t - s.F∧2 * t - s.F≤9223372036854775807:=(by omega);have r2 : -9223372036854775808≤2 * t - s.F - s.T∧2 * t - s.F - s.T≤9223372036854775807:=(by omega);have r3 : -9223372036854775808≤s.T - s.F∧s.T - s.F≤9223372036854775807:=(by omega);generalize xQ s t=x at *;go_enter Tryz.func131,Tryz.ntmps131
 go_wp2_with (fail)
 generalize hwz:(w.alloc (.cells #[.int .i64 s.F,.int .i64 s.T,.slice s.A0 s.l0.length s.c0,.slice s.A1 s.l1.length s.c1,.slice s.A2 s.l2.length s.c2] 95)).alloc (.cells #[.int .i64 0,.int .i64 0,.int .i64 0,.int .i64 0,.int .i64 0,.int .i64 0] 39)=wz at *;have KV:Hid (BlkV wz (w.heap.size+1) 39 #[.int .i64 0,.int .i64 0,.int .i64 0,.int .i64 0,.int .i64 0,.int .i64 0]):=(by rw [← hwz]; exact BlkV.fresh (by simp) _ _);have HB:Hid (Below w.heap.size w wz):=(by rw [← hwz]; exact q0a (blw1 _ _) (blw1 _ _));have KS:Hid (BlkV wz w.heap.size 95 #[.int .i64 s.F,.int .i64 s.T,.slice s.A0 s.l0.length s.c0,.slice s.A1 s.l1.length s.c1,.slice s.A2 s.l2.length s.c2]):=(by rw [← hwz]; exact (BlkV.fresh rfl _ _).alloc _);clear hwz;refine (HOF.out _).mono ?_;rintro e w1 ⟨Ax,cx,Bx,dx,rfl,hs1,ht1,hb⟩;(try dsimp only at hs1 ht1);(try dsimp only);replace KV:=lh (KV.out.keep hb);replace KS:=lh (KS.out.keep hb);replace HB:=lh (q0a HB.out hb);have SX:=lh hs1;have TX:=lh ht1;clear hb hs1 ht1 HOF r0 r1 r2 r3;have k2:=KS.out.at_ 2 rfl;have k3:=KS.out.at_ 3 rfl;have k4:=KS.out.at_ 4 rfl;have hlk:=KS.out.lt;have hlv:=KV.out.lt;go_upto_region 2 with fail
 generalize hwx:w1.alloc (.cells #[.bool (frQ x).1.1,.slice Ax (frQ x).1.2.length cx,.bool (frQ x).2.1,.slice Bx (frQ x).2.2.length dx] 48)=wx at *;have KX:Hid (BxQ wx w1.heap.size x Ax cx Bx dx):=(by rw [← hwx]; exact BxQ.fresh rfl SX.out TX.out);replace KV:Hid (BlkV wx (w.heap.size+1) 39 (stV v 0)):=(by rw [← hwx]; exact KV.out.alloc _);replace HB:Hid (Below w.heap.size w wx):=(by rw [← hwx]; exact q0a HB.out (blw1 _ _));replace KS:Hid (BlkV wx w.heap.size 95 #[.int .i64 s.F,.int .i64 s.T,.slice s.A0 s.l0.length s.c0,.slice s.A1 s.l1.length s.c1,.slice s.A2 s.l2.length s.c2]):=(by rw [← hwx]; exact KS.out.alloc _);clear hwx SX TX k2 k3 k4 hlk;have k2:=KS.out.at_ 2 rfl;have k3:=KS.out.at_ 3 rfl;have k4:=KS.out.at_ 4 rfl;have hgx:w.heap.size+1 < w1.heap.size:=(by have:=hlv; omega);clear hlv;generalize w1.heap.size=gx at *;go_wp2
 go_loopw [28] (fun s28 wr=>∃ k:Nat,k≤3∧s28=.int .i64 k∧BlkV wr (w.heap.size+1) 39 (stV v k)∧BxQ wr gx x Ax cx Bx dx∧Below w.heap.size w wr) (fun v _=>3 - (intOf v).toNat)
 case atStart=>exact ⟨0,by omega,rfl,KV.out,KX.out,HB.out⟩
 case round=>
  clear KV KX HB k2 k3 k4 KS;obtain ⟨k,hk,rfl,hkv,hkx,hbb⟩:=hrel;have KV:=lh hkv;have KX:=lh hkx;have HB:=lh hbb;clear hkv hkx hbb;have hi0:∀ W,(Instr.index 93 (.agg #[.slice s.A0 s.l0.length s.c0,.slice s.A1 s.l1.length s.c1,.slice s.A2 s.l2.length s.c2]) (.int .i64 0)).run Tryz.prog W=.ok (.slice s.A0 s.l0.length s.c0) W:=fun W=>by rfl
  have hi1:∀ W,(Instr.index 93 (.agg #[.slice s.A0 s.l0.length s.c0,.slice s.A1 s.l1.length s.c1,.slice s.A2 s.l2.length s.c2]) (.int .i64 1)).run Tryz.prog W=.ok (.slice s.A1 s.l1.length s.c1) W:=fun W=>by rfl
  have hi2:∀ W,(Instr.index 93 (.agg #[.slice s.A0 s.l0.length s.c0,.slice s.A1 s.l1.length s.c1,.slice s.A2 s.l2.length s.c2]) (.int .i64 2)).run Tryz.prog W=.ok (.slice s.A2 s.l2.length s.c2) W:=fun W=>by rfl
  have x0:=KX.out.k.1;have x1:=KX.out.k.2.1;have x2:=KX.out.k.2.2.1;have x3:=KX.out.k.2.2.2;obtain rfl | rfl | rfl | rfl:k=0∨k=1∨k=2∨k=3:=by omega
  ·go_wp2_with fail
   refine (coord_q s.l0 s.A0 s.c0 B x Ax Bx cx dx _ (S.out.below HB.out).i0 Q0.out n0 FX.out KX.out.s KX.out.t).1.mono ?_;rintro e w2 ⟨A1,c1,B1,d1,rfl,hs1,ht1,hb⟩;(try dsimp only at hs1 ht1);(try dsimp only);have FV:=lh (coord_q s.l0 s.A0 s.c0 B x Ax Bx cx dx _ (S.out.below HB.out).i0 Q0.out n0 FX.out KX.out.s KX.out.t).2;replace KV:=lh (KV.out.keep hb);replace KX:=lh (KX.out.keep hb);replace HB:=lh (q0a HB.out hb);clear hb x0 x1 x2 x3;go_wp2_with fail
   refine (units_q (vlQ s.l0 x) 700 FV.out (by omega) A1 B1 c1 d1 _ hs1 ht1).mono ?_;rw [unS_eq,V0.out];rintro e w3 ⟨rfl,hb⟩;dsimp only;clear hs1 ht1;replace KV:=lh (KV.out.keep hb);replace KX:=lh (KX.out.keep hb);replace HB:=lh (q0a HB.out hb);clear hb;have z0:w3.cell? ⟨w.heap.size+1,0,none⟩=some (.int .i64 0):=KV.out.at_ 0 rfl;have z1:w3.cell? ⟨w.heap.size+1,1,none⟩=some (.int .i64 0):=KV.out.at_ 1 rfl;have f0:=KV.out.frozen 0;have f1:=KV.out.frozen 1;go_wp2
   go_roundw
   case rel=>exact ⟨1,by omega,by go_num,(KV.out.put 0 (.int .i64 v.l0) rfl).put 1 (.int .i64 v.h0) rfl,bxq_set (bxq_set KX.out (by omega) z0 (.int .i64 v.l0)) (by omega) ((KV.out.put 0 (.int .i64 v.l0) rfl).at_ 1 rfl) (.int .i64 v.h0),below_set2 HB.out (Nat.le_succ _) _ _⟩
   case measure=>simp [intOf]
  ·go_wp2_with fail
   refine (coord_q s.l1 s.A1 s.c1 B x Ax Bx cx dx _ (S.out.below HB.out).i1 Q1.out n1 FX.out KX.out.s KX.out.t).1.mono ?_;rintro e w2 ⟨A1,c1,B1,d1,rfl,hs1,ht1,hb⟩;(try dsimp only at hs1 ht1);(try dsimp only);have FV:=lh (coord_q s.l1 s.A1 s.c1 B x Ax Bx cx dx _ (S.out.below HB.out).i1 Q1.out n1 FX.out KX.out.s KX.out.t).2;replace KV:=lh (KV.out.keep hb);replace KX:=lh (KX.out.keep hb);replace HB:=lh (q0a HB.out hb);clear hb x0 x1 x2 x3;go_wp2_with fail
   refine (units_q (vlQ s.l1 x) 700 FV.out (by omega) A1 B1 c1 d1 _ hs1 ht1).mono ?_;rw [unS_eq,V1.out];rintro e w3 ⟨rfl,hb⟩;dsimp only;clear hs1 ht1;replace KV:=lh (KV.out.keep hb);replace KX:=lh (KX.out.keep hb);replace HB:=lh (q0a HB.out hb);clear hb;have z0:w3.cell? ⟨w.heap.size+1,2,none⟩=some (.int .i64 0):=KV.out.at_ 2 rfl;have z1:w3.cell? ⟨w.heap.size+1,3,none⟩=some (.int .i64 0):=KV.out.at_ 3 rfl;have f0:=KV.out.frozen 2;have f1:=KV.out.frozen 3;go_wp2
   go_roundw
   case rel=>exact ⟨2,by omega,by go_num,(KV.out.put 2 (.int .i64 v.l1) rfl).put 3 (.int .i64 v.h1) rfl,bxq_set (bxq_set KX.out (by omega) z0 (.int .i64 v.l1)) (by omega) ((KV.out.put 2 (.int .i64 v.l1) rfl).at_ 3 rfl) (.int .i64 v.h1),below_set2 HB.out (Nat.le_succ _) _ _⟩
   case measure=>simp [intOf]
  ·go_wp2_with fail
   refine (coord_q s.l2 s.A2 s.c2 B x Ax Bx cx dx _ (S.out.below HB.out).i2 Q2.out n2 FX.out KX.out.s KX.out.t).1.mono ?_;rintro e w2 ⟨A1,c1,B1,d1,rfl,hs1,ht1,hb⟩;(try dsimp only at hs1 ht1);(try dsimp only);have FV:=lh (coord_q s.l2 s.A2 s.c2 B x Ax Bx cx dx _ (S.out.below HB.out).i2 Q2.out n2 FX.out KX.out.s KX.out.t).2;replace KV:=lh (KV.out.keep hb);replace KX:=lh (KX.out.keep hb);replace HB:=lh (q0a HB.out hb);clear hb x0 x1 x2 x3;go_wp2_with fail
   refine (units_q (vlQ s.l2 x) 700 FV.out (by omega) A1 B1 c1 d1 _ hs1 ht1).mono ?_;rw [unS_eq,V2.out];rintro e w3 ⟨rfl,hb⟩;dsimp only;clear hs1 ht1;replace KV:=lh (KV.out.keep hb);replace KX:=lh (KX.out.keep hb);replace HB:=lh (q0a HB.out hb);clear hb;have z0:w3.cell? ⟨w.heap.size+1,4,none⟩=some (.int .i64 0):=KV.out.at_ 4 rfl;have z1:w3.cell? ⟨w.heap.size+1,5,none⟩=some (.int .i64 0):=KV.out.at_ 5 rfl;have f0:=KV.out.frozen 4;have f1:=KV.out.frozen 5;go_wp2
   go_roundw
   case rel=>exact ⟨3,by omega,by go_num,(KV.out.put 4 (.int .i64 v.l2) rfl).put 5 (.int .i64 v.h2) rfl,bxq_set (bxq_set KX.out (by omega) z0 (.int .i64 v.l2)) (by omega) ((KV.out.put 4 (.int .i64 v.l2) rfl).at_ 5 rfl) (.int .i64 v.h2),below_set2 HB.out (Nat.le_succ _) _ _⟩
   case measure=>simp [intOf]
  ·replace KV:Hid (BlkV wr (w.heap.size+1) 39 #[.int .i64 v.l0,.int .i64 v.h0,.int .i64 v.l1,.int .i64 v.h1,.int .i64 v.l2,.int .i64 v.h2]):=KV.out;have a0:=KV.out.at_ 0 rfl;have a1:=KV.out.at_ 1 rfl;have a2:=KV.out.at_ 2 rfl;have a3:=KV.out.at_ 3 rfl;have a4:=KV.out.at_ 4 rfl;have a5:=KV.out.at_ 5 rfl;have f0:=KV.out.frozen 0;have f1:=KV.out.frozen 1;have f2:=KV.out.frozen 2;have f3:=KV.out.frozen 3;have f4:=KV.out.frozen 4;have f5:=KV.out.frozen 5;go_wp2
   exact bodyPost_ret (v:=.agg #[.int .i64 v.l0,.int .i64 v.h0,.int .i64 v.l1,.int .i64 v.h1,.int .i64 v.l2,.int .i64 v.h2]) (by simp [results,Tryz.results131,go_sem,a0,a1,a2,a3,a4,a5]) rfl ⟨rfl,q1d HB.out (Nat.le_succ _) _ _ _ _ _ _⟩
theorem lk_find (f:SG→V6 × Int) (bs:List BG) (i t:Int):lkE f bs i t=if (q1n bs i t).2=0 then f (q1n bs i t).1 else (zV6,(q1n bs i t).2):=by
 unfold lkE;by_cases hc:chkE bs=0
 ·rw [if_pos hc];by_cases hi:0≤i∧i < bs.length
  ·have h0:=hasE_in hc hi;have hg:=getV_ok h0 hi;rw [getB_some hi];dsimp only;rw [← hg]
   cases hs:segOf (getV bs i).ss t with
   | none=>rw [findS_none h0 hs]; rfl
   | some s=>rw [findS_some h0 hs]; rfl
  ·have h6:=hasE_out hc hi;rw [getB_none hi,findS_bad (t:=t) (by rw [h6]; decide),h6];rfl
 ·rw [if_neg hc];have hb:=hasE_bad (i:=i) hc;rw [findS_bad (t:=t) (by rw [hb]; exact hc),hb,if_neg hc]
theorem find_ok {bs:List BG} {i t:Int} (hg:grE bs=false) (h:(q1n bs i t).2=0):OkSeg (q1n bs i t).1∧(q1n bs i t).1.F≤t∧t≤(q1n bs i t).1.T∧∃ b∈bs,(q1n bs i t).1∈b.ss:=by
 by_cases h0:hasE bs i=0
 ·obtain ⟨hc,hi⟩:=hasE_zero h0;have hgv:=getV_ok h0 hi
  cases hs:segOf (getV bs i).ss t with
  | none=>rw [findS_none h0 hs] at h; simp at h
  | some s=>
   rw [findS_some h0 hs];obtain ⟨m,a,b⟩:=segOf_in hs;have hb:getV bs i∈bs:=(by rw [hgv]; exact List.getElem_mem _);exact ⟨ok_seg hg hc hb m,a,b,_,hb,m⟩
 ·rw [findS_bad h0] at h; exact absurd h h0
theorem ePlace_any (bs:List BG) (A:Option Addr) (c B:Nat) (i t:Int) (w:World) (hs:SlB w B A bs c) (hg:grE bs=false) :
  Calls Tryz.prog 80 #[.agg #[.slice A bs.length c],.int .i64 i,.int .i64 t] w fun e w'=>e=.returned (.tuple #[.agg #[.int .i64 (plE bs i t).1.l0,.int .i64 (plE bs i t).1.h0,.int .i64 (plE bs i t).1.l1,.int .i64 (plE bs i t).1.h1,.int .i64 (plE bs i t).1.l2,.int .i64 (plE bs i t).1.h2],.int .i64 (plE bs i t).2])∧Below w.heap.size w w':=by
 have S:=lh hs;have OK:=lh (find_ok (i:=i) (t:=t) hg);have CF:=lh (fun V (hV:Below w.heap.size w V)=>efind_any bs A c B i t V (S.out.below hV));have OS:Hid (∀ b∈bs,(q1n bs i t).1∈b.ss→∀ V,Below w.heap.size w V→OkS V B (q1n bs i t).1):=fun b hb hm V hV=>((S.out.below hV).all b hb).sl.all _ hm;unfold plE;rw [lk_find];clear hs S;generalize q1n bs i t=r at *;obtain ⟨s,x⟩:=r;dsimp only at *;by_cases hx:x=0
 ·subst hx;obtain ⟨o1,o2,o3,b,ob,om⟩:=OK.out rfl;have CP:=lh (fun V (hV:Below w.heap.size w V)=>eplace_any s t B V (OS.out b ob om V hV) o1 o2 o3);clear OK OS;generalize plV s t=v at *;rw [if_pos rfl];go_enter Tryz.func80,Tryz.ntmps80
  go_wp2_with (fail)
  generalize hwz:(w.alloc (.cells #[.slice A bs.length c] 24)).alloc (.cells #[.int .i64 0,.int .i64 0,.int .i64 0,.int .i64 0,.int .i64 0,.int .i64 0] 39)=wz at *;have KV:Hid (BlkV wz (w.heap.size+1) 39 #[.int .i64 0,.int .i64 0,.int .i64 0,.int .i64 0,.int .i64 0,.int .i64 0]):=(by rw [← hwz]; exact BlkV.fresh (by simp) _ _);have HB:Hid (Below w.heap.size w wz):=(by rw [← hwz]; exact q0a (blw1 _ _) (blw1 _ _));clear hwz;refine (CF.out wz HB.out).mono ?_;rintro e w1 ⟨rfl,hb⟩;replace KV:=lh (KV.out.keep hb);replace HB:=lh (q0a HB.out hb);clear hb CF;go_upto_region 2 with fail
  generalize hwx:w1.alloc (.cells #[.int .i64 s.F,.int .i64 s.T,.slice s.A0 s.l0.length s.c0,.slice s.A1 s.l1.length s.c1,.slice s.A2 s.l2.length s.c2] 95)=wx at *;replace KV:Hid (BlkV wx (w.heap.size+1) 39 #[.int .i64 0,.int .i64 0,.int .i64 0,.int .i64 0,.int .i64 0,.int .i64 0]):=(by rw [← hwx]; exact KV.out.alloc _);replace HB:Hid (Below w.heap.size w wx):=(by rw [← hwx]; exact q0a HB.out (blw1 _ _));have KS:Hid (BlkV wx w1.heap.size 95 #[.int .i64 s.F,.int .i64 s.T,.slice s.A0 s.l0.length s.c0,.slice s.A1 s.l1.length s.c1,.slice s.A2 s.l2.length s.c2]):=(by rw [← hwx]; exact BlkV.fresh rfl _ _);clear hwx;have k0:=KS.out.at_ 0 rfl;have k1:=KS.out.at_ 1 rfl;have k2:=KS.out.at_ 2 rfl;have k3:=KS.out.at_ 3 rfl;have k4:=KS.out.at_ 4 rfl;go_wp2_with fail
  refine (CP.out _ HB.out).mono ?_;rintro e w2 ⟨rfl,hb⟩;replace KV:=lh (KV.out.keep hb);replace HB:=lh (q0a HB.out hb);clear hb k0 k1 k2 k3 k4 KS;have a0:=KV.out.at_ 0 rfl;have a1:=KV.out.at_ 1 rfl;have a2:=KV.out.at_ 2 rfl;have a3:=KV.out.at_ 3 rfl;have a4:=KV.out.at_ 4 rfl;have a5:=KV.out.at_ 5 rfl;have f0:=KV.out.frozen 0;have f1:=KV.out.frozen 1;have f2:=KV.out.frozen 2;have f3:=KV.out.frozen 3;have f4:=KV.out.frozen 4;have f5:=KV.out.frozen 5;go_wp2
  exact bodyPost_ret (v:=.tuple #[.agg #[.int .i64 v.l0,.int .i64 v.h0,.int .i64 v.l1,.int .i64 v.h1,.int .i64 v.l2,.int .i64 v.h2],.int .i64 0]) (by simp [results,Tryz.results80,go_sem,a0,a1,a2,a3,a4,a5]) rfl ⟨rfl,q1d HB.out (Nat.le_succ _) _ _ _ _ _ _⟩
 ·have t0:(x != 0)=true:=bne_iff_ne.2 hx;rw [if_neg hx];clear OK OS hx;go_enter Tryz.func80,Tryz.ntmps80
  go_wp2_with (fail)
  generalize hwz:(w.alloc (.cells #[.slice A bs.length c] 24)).alloc (.cells #[.int .i64 0,.int .i64 0,.int .i64 0,.int .i64 0,.int .i64 0,.int .i64 0] 39)=wz at *;have KV:Hid (BlkV wz (w.heap.size+1) 39 #[.int .i64 0,.int .i64 0,.int .i64 0,.int .i64 0,.int .i64 0,.int .i64 0]):=(by rw [← hwz]; exact BlkV.fresh (by simp) _ _);have HB:Hid (Below w.heap.size w wz):=(by rw [← hwz]; exact q0a (blw1 _ _) (blw1 _ _));clear hwz;refine (CF.out wz HB.out).mono ?_;rintro e w1 ⟨rfl,hb⟩;replace KV:=lh (KV.out.keep hb);replace HB:=lh (q0a HB.out hb);clear hb CF;go_upto_region 2 with fail
  generalize hwx:w1.alloc (.cells #[.int .i64 s.F,.int .i64 s.T,.slice s.A0 s.l0.length s.c0,.slice s.A1 s.l1.length s.c1,.slice s.A2 s.l2.length s.c2] 95)=wx at *;replace KV:Hid (BlkV wx (w.heap.size+1) 39 #[.int .i64 0,.int .i64 0,.int .i64 0,.int .i64 0,.int .i64 0,.int .i64 0]):=(by rw [← hwx]; exact KV.out.alloc _);replace HB:Hid (Below w.heap.size w wx):=(by rw [← hwx]; exact q0a HB.out (blw1 _ _));clear hwx;have a0:=KV.out.at_ 0 rfl;have a1:=KV.out.at_ 1 rfl;have a2:=KV.out.at_ 2 rfl;have a3:=KV.out.at_ 3 rfl;have a4:=KV.out.at_ 4 rfl;have a5:=KV.out.at_ 5 rfl;have f0:=KV.out.frozen 0;have f1:=KV.out.frozen 1;have f2:=KV.out.frozen 2;have f3:=KV.out.frozen 3;have f4:=KV.out.frozen 4;have f5:=KV.out.frozen 5;go_wp2
  exact bodyPost_ret (v:=.tuple #[.agg #[.int .i64 0,.int .i64 0,.int .i64 0,.int .i64 0,.int .i64 0,.int .i64 0],.int .i64 x]) (by simp [results,Tryz.results80,go_sem,a0,a1,a2,a3,a4,a5]) rfl ⟨rfl,q1d HB.out (Nat.le_succ _) _ _ _ _ _ _⟩
end Go.Proofs.YtgnjhlnolihgcaaGreat
namespace Go.Proofs.YtgnjhlnolihgcaaGreat
open Lib renaming hid → lh
open Go.RowKit
attribute [local go_sem ↓] Go.wp_at_zero Go.wp_at_succ
def ckI8 (lo hi:Int):Int:=if chkI lo hi then 0 else 8
def ckV8 (v:V6):Int:=if chkV v then 0 else 8
theorem chkI_1 {lo hi:Int} (h:hi < lo):chkI lo hi=false:=by unfold chkI; rw [decide_eq_false (show ¬ lo≤hi by omega)]; rfl
theorem chkI_2 {lo hi:Int} (h:lo < -2305843009213693952):chkI lo hi=false:=by unfold chkI; rw [decide_eq_false (show ¬ -2305843009213693952≤lo by omega)]; simp
theorem chkI_3 {lo hi:Int} (h:2305843009213693952 < hi):chkI lo hi=false:=by unfold chkI; rw [decide_eq_false (show ¬ hi≤2305843009213693952 by omega)]; simp
theorem chkI_0 {lo hi:Int} (h1:¬ hi < lo) (h2:¬ lo < -2305843009213693952) (h3:¬ 2305843009213693952 < hi):chkI lo hi=true:=by unfold chkI; rw [decide_eq_true (show lo≤hi by omega),decide_eq_true (show -2305843009213693952≤lo by omega),decide_eq_true (show hi≤2305843009213693952 by omega)]; rfl
theorem ckI8_0 {lo hi:Int} (h:chkI lo hi=true):ckI8 lo hi=0:=by unfold ckI8; rw [h]; rfl
theorem ckI8_8 {lo hi:Int} (h:chkI lo hi=false):ckI8 lo hi=8:=by unfold ckI8; rw [h]; rfl
def lo6 (v:V6) (k:Nat):Int:=if k=0 then v.l0 else if k=1 then v.l1 else v.l2
def hi6 (v:V6) (k:Nat):Int:=if k=0 then v.h0 else if k=1 then v.h1 else v.h2
theorem ckV8_0 {v:V6} (h:∀ k,k < 3→chkI (lo6 v k) (hi6 v k)=true):ckV8 v=0:=by
 unfold ckV8 chkV;rw [show chkI v.l0 v.h0=true from h 0 (by omega),show chkI v.l1 v.h1=true from h 1 (by omega),show chkI v.l2 v.h2=true from h 2 (by omega)]; rfl
theorem ckV8_8 {v:V6} {k:Nat} (hk:k < 3) (h:chkI (lo6 v k) (hi6 v k)=false):ckV8 v=8:=by
 unfold ckV8 chkV;obtain rfl | rfl | rfl:k=0∨k=1∨k=2:=by omega
 ·rw [show chkI v.l0 v.h0=false from h]; rfl
 ·rw [show chkI v.l1 v.h1=false from h]; simp
 ·rw [show chkI v.l2 v.h2=false from h]; simp
theorem spcheck1_any (lo hi:Int) (g:Nat) (w:World) (hg:BlkV w g 37 #[.int .i64 lo,.int .i64 hi]) :
  Calls Tryz.prog 170 #[.slice (some ⟨g,0,none⟩) 1 1] w fun e w'=>e=.returned (.int .i64 (ckI8 lo hi))∧Below w.heap.size w w':=by
 have KG:=lh hg;clear hg;go_enter Tryz.func170,Tryz.ntmps170
 go_wp2
 go_loopw [7] (fun s7 wr=>∃ k:Nat,k≤1∧s7=.int .i64 k∧Below w.heap.size w wr∧(k=1→chkI lo hi=true)) (fun v _=>1 - (intOf v).toNat)
 case atStart=>exact ⟨0,by omega,rfl,Below.refl _ _,fun h=>by omega⟩
 case round=>
  obtain ⟨k,hk,rfl,hb,hc⟩:=hrel;have HB:=lh hb;have K1:=lh (KG.out.keep hb);clear hb;by_cases hk1:k < 1
  ·obtain rfl:k=0:=by omega
   clear hc;have c0:=K1.out.at_ 0 rfl;have c1:=K1.out.at_ 1 rfl;have hlg:=K1.out.lt;go_upto_region 4 with fail
   generalize hwx:wr.alloc (.cells #[.int .i64 lo,.int .i64 hi] 37)=wx at *;have KX:Hid (BlkV wx wr.heap.size 37 #[.int .i64 lo,.int .i64 hi]):=(by rw [← hwx]; exact BlkV.fresh rfl _ _);replace HB:Hid (Below w.heap.size w wx):=(by rw [← hwx]; exact q0a HB.out (blw1 _ _));clear hwx c0 c1 hlg;have c0:=KX.out.at_ 0 rfl;have c1:=KX.out.at_ 1 rfl;by_cases h0:hi < lo
   ·have t0:decide (hi < lo)=true:=decide_eq_true h0;go_wp2
    go_ret
    exact ⟨by rw [ckI8_8 (chkI_1 h0)]; rfl,HB.out⟩
   ·have t0:decide (hi < lo)=false:=decide_eq_false h0;by_cases h1:lo < -2305843009213693952
    ·have t1:decide (lo < -2305843009213693952)=true:=decide_eq_true h1;go_wp2
     go_ret
     exact ⟨by rw [ckI8_8 (chkI_2 h1)]; rfl,HB.out⟩
    ·have t1:decide (lo < -2305843009213693952)=false:=decide_eq_false h1;by_cases h2:2305843009213693952 < hi
     ·have t2:decide (2305843009213693952 < hi)=true:=decide_eq_true h2;go_wp2
      go_ret
      exact ⟨by rw [ckI8_8 (chkI_3 h2)]; rfl,HB.out⟩
     ·have t2:decide (2305843009213693952 < hi)=false:=decide_eq_false h2;have hok:chkI lo hi=true:=(chkI_0 h0 h1 h2);go_wp2
      go_roundw
      case rel=>exact ⟨1,by omega,by go_num,HB.out,fun _=>hok⟩
      case measure=>simp [intOf]
  ·obtain rfl:k=1:=by omega
   have E:=lh (ckI8_0 (hc rfl));clear hc;go_wp2
   go_ret
   exact ⟨by rw [E.out]; rfl,HB.out⟩
theorem spcheck_any (lo hi:Int) (w:World):Calls Tryz.prog 137 #[.agg #[.int .i64 lo,.int .i64 hi]] w fun e w'=>e=.returned (.int .i64 (ckI8 lo hi))∧Below w.heap.size w w':=by
 go_enter Tryz.func137,Tryz.ntmps137
 go_wp2_with fail
 generalize hwx:(w.alloc (.cells #[.int .i64 lo,.int .i64 hi] 37)).alloc (.cells #[.int .i64 lo,.int .i64 hi] 37)=wx at *;have KX:BlkV wx (w.heap.size+1) 37 #[.int .i64 lo,.int .i64 hi]:=(by rw [← hwx]; exact BlkV.fresh (by simp) _ _);have HB:Hid (Below w.heap.size w wx):=(by rw [← hwx]; exact q0a (blw1 _ _) (blw1 _ _));clear hwx;refine (spcheck1_any lo hi _ wx KX).mono ?_;rintro e w1 ⟨rfl,hb⟩;replace HB:=lh (q0a HB.out hb);clear hb KX;go_wp2
 go_ret
 exact ⟨rfl,HB.out⟩
theorem sphcheck_any (v:V6) (w:World):Calls Tryz.prog 87 #[.agg #[.int .i64 v.l0,.int .i64 v.h0,.int .i64 v.l1,.int .i64 v.h1,.int .i64 v.l2,.int .i64 v.h2]] w fun e w'=>e=.returned (.int .i64 (ckV8 v))∧Below w.heap.size w w':=by
 go_enter Tryz.func87,Tryz.ntmps87
 go_wp2
 generalize hwx:w.alloc (.cells #[.int .i64 v.l0,.int .i64 v.h0,.int .i64 v.l1,.int .i64 v.h1,.int .i64 v.l2,.int .i64 v.h2] 39)=wx at *;have KX:Hid (BlkV wx w.heap.size 39 #[.int .i64 v.l0,.int .i64 v.h0,.int .i64 v.l1,.int .i64 v.h1,.int .i64 v.l2,.int .i64 v.h2]):=(by rw [← hwx]; exact BlkV.fresh rfl _ _);have BX:Hid (Below w.heap.size w wx):=(by rw [← hwx]; exact blw1 _ _);clear hwx;go_loopw [5] (fun s5 wr=>∃ k:Nat,k≤3∧s5=.int .i64 k∧Below wx.heap.size wx wr∧∀ j,j < k→chkI (lo6 v j) (hi6 v j)=true) (fun v _=>3 - (intOf v).toNat)
 case atStart=>exact ⟨0,by omega,rfl,Below.refl _ _,fun j h=>by omega⟩
 case round=>
  obtain ⟨k,hk,rfl,hb,hc⟩:=hrel;have HB:=lh (q0a BX.out hb);have B1:=lh hb;have K1:=lh (KX.out.keep hb);clear hb;by_cases hk3:k < 3
  ·have tk':decide ((k:Int) < 3)=true:=decide_eq_true (by omega);have lk:=K1.out.lt
   obtain ⟨c0,c1⟩:wr.cell? ⟨w.heap.size,k * 2,none⟩=some (.int .i64 (lo6 v k))∧wr.cell? ⟨w.heap.size,k * 2+1,none⟩=some (.int .i64 (hi6 v k)):=by
    have hk':k=0∨k=1∨k=2:=(by omega);rcases hk' with rfl | rfl | rfl
    ·exact ⟨K1.out.at_ 0 rfl,K1.out.at_ 1 rfl⟩
    ·exact ⟨K1.out.at_ 2 rfl,K1.out.at_ 3 rfl⟩
    ·exact ⟨K1.out.at_ 4 rfl,K1.out.at_ 5 rfl⟩
   have BAD:=lh (ckV8_8 (v:=v) hk3)
   have hnx:∀ b,chkI (lo6 v k) (hi6 v k)=b→(b=true→∀ j,j < k+1→chkI (lo6 v j) (hi6 v j)=true):=fun b h e j hj=>by
    by_cases hjk:j=k
    ·rw [hjk,h,e]
    ·exact hc j (by omega)
   clear hc;have i3:(k:Int) < 3:=(by omega);have i0:(0:Int)≤(k:Int):=(by omega);generalize lo6 v k=lo at *;generalize hi6 v k=hi at *;have HN:=lh hnx;clear hnx;go_wp2_with fail
   refine (spcheck_any lo hi _).mono ?_;rintro e w2 ⟨rfl,hb⟩;replace HB:=lh (q0a HB.out hb);replace B1:=lh (q0a B1.out hb);clear hb c0 c1
   cases hcc:chkI lo hi with
   | true=>
    rw [ckI8_0 hcc];have HX:=lh (HN.out true hcc rfl);clear HN BAD hcc;go_wp2
    go_roundw
    case rel=>exact ⟨k+1,by omega,by go_num,B1.out,HX.out⟩
    case measure=>simp [intOf]; omega
   | false=>
    rw [ckI8_8 hcc];have E:=lh (BAD.out hcc);clear HN BAD hcc;go_wp2
    go_ret
    exact ⟨by rw [E.out]; rfl,HB.out⟩
  ·obtain rfl:k=3:=by omega
   have tk':decide (((3:Nat):Int) < 3)=false:=rfl;have E:=lh (ckV8_0 hc);clear hc;go_wp2
   go_ret
   exact ⟨by rw [E.out]; rfl,HB.out⟩
end Go.Proofs.YtgnjhlnolihgcaaGreat
import Derived.Test.YtghallnooijfhaaGreatMg13
import Derived.Test.YtghallnooijfhaaGreatMg12
set_option maxHeartbeats 8000000
set_option maxRecDepth 100000
namespace Go.Proofs.YtghallnooijfhaaGreat
open Lib renaming hid → lh
open Go.RowKit
attribute [local go_sem ↓] Go.wp_at_zero Go.wp_at_succ
theorem units_q (q:Rat) (k:Nat) (hq:Few k q) (hk:k≤3900) (A B:Option Addr) (c d:Nat) (w:World) (hs:Sl w A (frQ q).1.2 c) (ht:Sl w B (frQ q).2.2 d) :
  Calls Tryz.prog 55 #[.agg #[.bool (frQ q).1.1,.slice A (frQ q).1.2.length c,.bool (frQ q).2.1,.slice B (frQ q).2.2.length d]] w (IvRes (ivS (q * Rat.divInt 1 1099511627776)) w):=by
 have hU:Hid (∀ V,Calls Tryz.prog 38 #[.int .i64 1,.int .i64 1099511627776] V (FRes (frQ (Rat.divInt 1 1099511627776),0) V)):=fun V=>by
  have h:=of_any 1 1099511627776 (by omega) (by omega) (by omega) (by omega) V;rwa [of_q (by omega)] at h
 have fu:Few 2 (Rat.divInt 1 1099511627776):=few_div (by omega) (by decide) (by decide);have FU:=lh fu;have FQ:=lh hq;have FM:=lh (q_mul hq fu (by omega)).2;have S1:=lh hs;have S2:=lh ht;clear hs ht hq fu;generalize Rat.divInt 1 1099511627776=u at *;go_enter Tryz.func55,Tryz.ntmps55
 go_wp2_with (fail)
 generalize hwz:(w.alloc (.cells #[.bool (frQ q).1.1,.slice A (frQ q).1.2.length c,.bool (frQ q).2.1,.slice B (frQ q).2.2.length d] 53)).alloc (.cells #[.int .i64 0,.int .i64 0] 27)=wz at *;have Kx:Hid (BxQ wz w.heap.size q A c B d):=(by rw [← hwz]; exact (BxQ.fresh rfl S1.out S2.out).alloc _);have Ko:Hid (BlkV wz (w.heap.size+1) 27 #[.int .i64 0,.int .i64 0]):=(by rw [← hwz]; exact BlkV.fresh (by simp) _ _);have HB:Hid (Below w.heap.size w wz):=(by rw [← hwz]; exact q0a (blw1 _ _) (blw1 _ _));clear hwz S1 S2;refine (hU.out _).mono ?_;rintro e w1 ⟨A1,c1,A2,c2,rfl,hs1,hs2,hb⟩;(try dsimp only at hs1 hs2);(try dsimp only);replace Kx:=lh (Kx.out.keep hb);replace Ko:=lh (Ko.out.keep hb);replace HB:=lh (q0a HB.out hb);have S1:=lh hs1;have S2:=lh hs2;clear hb hs1 hs2;have qx0:=Kx.out.k.1;have qx1:=Kx.out.k.2.1;have qx2:=Kx.out.k.2.2.1;have qx3:=Kx.out.k.2.2.2;have hlx:=Kx.out.lt;have hlo:=Ko.out.lt;go_wp2_with fail
 refine (emul_q FQ.out FU.out (by omega) _ A B A1 A2 c d c1 c2 (Kx.out.s.alloc _) (Kx.out.t.alloc _) (S1.out.alloc _) (S2.out.alloc _)).mono ?_;rintro e w2 ⟨A3,c3,A4,c4,rfl,hs3,hs4,hb'⟩;(try dsimp only at hs3 hs4);(try dsimp only);have hb:=q0a (blw1 _ _) hb';replace Ko:=lh (Ko.out.keep hb);replace HB:=lh (q0a HB.out hb);clear hb hb' qx0 qx1 qx2 qx3 hlx hlo Kx;go_wp2_with fail
 refine (spanof_q (q * u) (k+2) FM.out (by omega) A3 A4 c3 c4 _ hs3 hs4).mono ?_;obtain ⟨⟨z1,z2,z3⟩,hz⟩:∃ r,r=ivS (q * u):=⟨_,rfl⟩;rw [← hz];rintro e w3 ⟨rfl,hb⟩;dsimp only;replace Ko:=lh (Ko.out.keep hb);replace HB:=lh (q0a HB.out hb);clear hb;have qo0:w3.cell? ⟨w.heap.size+1,0,none⟩=some (.int .i64 0):=Ko.out.at_ 0 rfl;have qo1:w3.cell? ⟨w.heap.size+1,1,none⟩=some (.int .i64 0):=Ko.out.at_ 1 rfl;have fo0:=Ko.out.frozen 0;have fo1:=Ko.out.frozen 1;go_wp2
 exact bodyPost_ret (v:=.tuple #[.agg #[.int .i64 z1,.int .i64 z2],.int .i64 z3]) (by simp [results,Tryz.results55,go_sem,qo0,qo1]) rfl ⟨by rw [← hz],q0e HB.out (Nat.le_succ _) _ _⟩
end Go.Proofs.YtghallnooijfhaaGreat
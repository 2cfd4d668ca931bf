import Derived.Test.YtgnjhlnolihgcaaGreatMg19
import Derived.Test.YtgnjhlnolihgcaaGreatMg21
import Derived.Deep.RegionHeld
set_option maxHeartbeats 16000000
set_option maxRecDepth 100000
namespace Go.Proofs.YtgnjhlnolihgcaaGreat
open List renaming getElem_toArray → z0q, getElem_cons_zero → z1q, getElem_cons_succ → z2q, setIfInBounds_toArray → z3q, set_cons_zero → z4q, set_cons_succ → z5q
open Lib renaming hid → lh
open Go.RowKit Go.Lib Go.Shelf
attribute [local go_sem ↓] Go.wp_at_zero Go.wp_at_succ
theorem wall_bd {x:Int} (h0:0≤x) (h1:x≤63802943797675961899382738893456539648):fitZ x:=fit4 (by omega)
theorem cmpG_any (x y:Int × Int) (fx:fitZ x.1) (fy:fitZ y.1) (A1:Option Addr) (c1:Nat) (A2:Option Addr) (c2:Nat) (B1:Option Addr) (d1:Nat) (B2:Option Addr) (d2:Nat) (w:World) (s1:Sl w A1 (wOf x.1).2 c1) (t1:Sl w B1 (wOf y.1).2 d1) :
  Calls Tryz.prog 93 #[.agg #[.bool (wOf x.1).1,.slice A1 (wOf x.1).2.length c1,.bool (wOf x.2).1,.slice A2 (wOf x.2).2.length c2],.agg #[.bool (wOf y.1).1,.slice B1 (wOf y.1).2.length d1,.bool (wOf y.2).1,.slice B2 (wOf y.2).2.length d2]] w fun e w'=>e=.returned (.int .i64 (cmpZ x.1 y.1))∧Below w.heap.size w w':=by
 have C:Hid (∀ V,Below w.heap.size w V→Calls Tryz.prog 94 #[.agg #[.bool (wOf x.1).1,.slice A1 (wOf x.1).2.length c1],.agg #[.bool (wOf y.1).1,.slice B1 (wOf y.1).2.length d1]] V fun e w'=>e=.returned (.int .i64 (cmpZ x.1 y.1))∧Below V.heap.size V w'):=fun V h=>order_any fx fy A1 B1 c1 d1 V (s1.below h) (t1.below h);clear s1 t1 fx fy;generalize cmpZ x.1 y.1=k at *;generalize (wOf x.1).1=bx1 at *;generalize (wOf x.1).2=lx1 at *;generalize (wOf x.2).1=bx2 at *;generalize (wOf x.2).2=lx2 at *;generalize (wOf y.1).1=by1 at *;generalize (wOf y.1).2=ly1 at *;generalize (wOf y.2).1=by2 at *;generalize (wOf y.2).2=ly2 at *;generalize hw0:(w.alloc (.cells #[.bool bx1,.slice A1 lx1.length c1,.bool bx2,.slice A2 lx2.length c2] 161)).alloc (.cells #[.bool by1,.slice B1 ly1.length d1,.bool by2,.slice B2 ly2.length d2] 161)=w0 at *;have K1:BlkV w0 w.heap.size 161 #[.bool bx1,.slice A1 lx1.length c1,.bool bx2,.slice A2 lx2.length c2]:=(by rw [← hw0]; exact (BlkV.fresh rfl _ _).alloc _);have K2:BlkV w0 (w.heap.size+1) 161 #[.bool by1,.slice B1 ly1.length d1,.bool by2,.slice B2 ly2.length d2]:=(by rw [← hw0]; exact BlkV.fresh (by simp) _ _);have HB:Hid (Below w.heap.size w w0):=(by rw [← hw0]; exact q0a (blw1 _ _) (blw1 _ _));have k0:=K1.at_ 0 rfl;have k1:=K1.at_ 1 rfl;have k2:=K2.at_ 0 rfl;have k3:=K2.at_ 1 rfl;clear K1 K2;go_enter Tryz.func93,Tryz.ntmps93
 go_wp2_with fail
 try rw [hw0]
 refine (C.out _ HB.out).mono ?_;rintro e w1 ⟨rfl,hb⟩;replace HB:=lh (q0a HB.out hb);clear hb k0 k1 k2 k3;go_wp2
 go_ret
 exact ⟨rfl,HB.out⟩
theorem cmpE_any (x y:Int × Int) (fx:fitZ x.2) (fy:fitZ y.2) (A1:Option Addr) (c1:Nat) (A2:Option Addr) (c2:Nat) (B1:Option Addr) (d1:Nat) (B2:Option Addr) (d2:Nat) (w:World) (s2:Sl w A2 (wOf x.2).2 c2) (t2:Sl w B2 (wOf y.2).2 d2) :
  Calls Tryz.prog 95 #[.agg #[.bool (wOf x.1).1,.slice A1 (wOf x.1).2.length c1,.bool (wOf x.2).1,.slice A2 (wOf x.2).2.length c2],.agg #[.bool (wOf y.1).1,.slice B1 (wOf y.1).2.length d1,.bool (wOf y.2).1,.slice B2 (wOf y.2).2.length d2]] w fun e w'=>e=.returned (.int .i64 (cmpZ x.2 y.2))∧Below w.heap.size w w':=by
 have C:Hid (∀ V,Below w.heap.size w V→Calls Tryz.prog 94 #[.agg #[.bool (wOf x.2).1,.slice A2 (wOf x.2).2.length c2],.agg #[.bool (wOf y.2).1,.slice B2 (wOf y.2).2.length d2]] V fun e w'=>e=.returned (.int .i64 (cmpZ x.2 y.2))∧Below V.heap.size V w'):=fun V h=>order_any fx fy A2 B2 c2 d2 V (s2.below h) (t2.below h);clear s2 t2 fx fy;generalize cmpZ x.2 y.2=k at *;generalize (wOf x.1).1=bx1 at *;generalize (wOf x.1).2=lx1 at *;generalize (wOf x.2).1=bx2 at *;generalize (wOf x.2).2=lx2 at *;generalize (wOf y.1).1=by1 at *;generalize (wOf y.1).2=ly1 at *;generalize (wOf y.2).1=by2 at *;generalize (wOf y.2).2=ly2 at *;generalize hw0:(w.alloc (.cells #[.bool bx1,.slice A1 lx1.length c1,.bool bx2,.slice A2 lx2.length c2] 161)).alloc (.cells #[.bool by1,.slice B1 ly1.length d1,.bool by2,.slice B2 ly2.length d2] 161)=w0 at *;have K1:BlkV w0 w.heap.size 161 #[.bool bx1,.slice A1 lx1.length c1,.bool bx2,.slice A2 lx2.length c2]:=(by rw [← hw0]; exact (BlkV.fresh rfl _ _).alloc _);have K2:BlkV w0 (w.heap.size+1) 161 #[.bool by1,.slice B1 ly1.length d1,.bool by2,.slice B2 ly2.length d2]:=(by rw [← hw0]; exact BlkV.fresh (by simp) _ _);have HB:Hid (Below w.heap.size w w0):=(by rw [← hw0]; exact q0a (blw1 _ _) (blw1 _ _));have k0:=K1.at_ 2 rfl;have k1:=K1.at_ 3 rfl;have k2:=K2.at_ 2 rfl;have k3:=K2.at_ 3 rfl;clear K1 K2;go_enter Tryz.func95,Tryz.ntmps95
 go_wp2_with fail
 try rw [hw0]
 refine (C.out _ HB.out).mono ?_;rintro e w1 ⟨rfl,hb⟩;replace HB:=lh (q0a HB.out hb);clear hb k0 k1 k2 k3;go_wp2
 go_ret
 exact ⟨rfl,HB.out⟩
theorem open_any (x:Int × Int) (z:Int) (fx:fitZ x.1) (fz:fitZ z) (A1:Option Addr) (c1:Nat) (A2:Option Addr) (c2:Nat) (B1:Option Addr) (d1:Nat) (w:World) (s1:Sl w A1 (wOf x.1).2 c1) (t1:Sl w B1 (wOf z).2 d1) :
  Calls Tryz.prog 90 #[.agg #[.bool (wOf z).1,.slice B1 (wOf z).2.length d1],.agg #[.bool (wOf x.1).1,.slice A1 (wOf x.1).2.length c1,.bool (wOf x.2).1,.slice A2 (wOf x.2).2.length c2]] w fun e w'=>e=.returned (.bool (decide (x.1≤z)))∧Below w.heap.size w w':=by
 have C:Hid (∀ V,Below w.heap.size w V→Calls Tryz.prog 94 #[.agg #[.bool (wOf x.1).1,.slice A1 (wOf x.1).2.length c1],.agg #[.bool (wOf z).1,.slice B1 (wOf z).2.length d1]] V fun e w'=>e=.returned (.int .i64 (cmpZ x.1 z))∧Below V.heap.size V w'):=fun V h=>order_any fx fz A1 B1 c1 d1 V (s1.below h) (t1.below h);have HD:Hid (decide (x.1≤z)=decide (cmpZ x.1 z≤0)):=decide_eq_decide.2 (by unfold cmpZ; split <;> (try split) <;> omega);rw [HD.out];clear s1 t1 fx fz HD;generalize cmpZ x.1 z=k at *;generalize (wOf x.1).1=bx1 at *;generalize (wOf x.1).2=lx1 at *;generalize (wOf x.2).1=bx2 at *;generalize (wOf x.2).2=lx2 at *;generalize (wOf z).1=by1 at *;generalize (wOf z).2=ly1 at *;generalize hw0:(w.alloc (.cells #[.bool by1,.slice B1 ly1.length d1] 155)).alloc (.cells #[.bool bx1,.slice A1 lx1.length c1,.bool bx2,.slice A2 lx2.length c2] 161)=w0 at *;have K1:BlkV w0 w.heap.size 155 #[.bool by1,.slice B1 ly1.length d1]:=(by rw [← hw0]; exact (BlkV.fresh rfl _ _).alloc _);have K2:BlkV w0 (w.heap.size+1) 161 #[.bool bx1,.slice A1 lx1.length c1,.bool bx2,.slice A2 lx2.length c2]:=(by rw [← hw0]; exact BlkV.fresh (by simp) _ _);have HB:Hid (Below w.heap.size w w0):=(by rw [← hw0]; exact q0a (blw1 _ _) (blw1 _ _));have k0:=K1.at_ 0 rfl;have k1:=K1.at_ 1 rfl;have k2:=K2.at_ 0 rfl;have k3:=K2.at_ 1 rfl;clear K1 K2;go_enter Tryz.func90,Tryz.ntmps90
 go_wp2_with fail
 try rw [hw0]
 refine (C.out _ HB.out).mono ?_;rintro e w1 ⟨rfl,hb⟩;replace HB:=lh (q0a HB.out hb);clear hb k0 k1 k2 k3;go_wp2
 go_ret
 exact ⟨rfl,HB.out⟩
theorem least_any (G:Nat) (g:Nat→Int) (f:Nat→Int × Int) (B n c:Nat) (A:Option Addr) (w:World) (hs:SlN w B A n f c) (hn:n≤200) (hE:∀ args w,(callFunc G args).run Tryz.prog w=.ok (.enter G args) w)
  (hc:∀ i j,i < n→j < n→∀ A1 c1 A2 c2 B1 d1 B2 d2 V,Sl V A1 (wOf (f i).1).2 c1→Sl V A2 (wOf (f i).2).2 c2→Sl V B1 (wOf (f j).1).2 d1→Sl V B2 (wOf (f j).2).2 d2→Calls Tryz.prog G #[.agg #[.bool (wOf (f i).1).1,.slice A1 (wOf (f i).1).2.length c1,.bool (wOf (f i).2).1,.slice A2 (wOf (f i).2).2.length c2],.agg #[.bool (wOf (f j).1).1,.slice B1 (wOf (f j).1).2.length d1,.bool (wOf (f j).2).1,.slice B2 (wOf (f j).2).2.length d2]] V fun e w'=>e=.returned (.int .i64 (cmpZ (g i) (g j)))∧Below V.heap.size V w') :
  Calls Tryz.prog 92 #[.slice A n c,.func (.func G) #[] #[]] w fun e w'=>e=.returned (.int .i64 (lsI g n))∧Below w.heap.size w w':=by
 have S:=lh hs;have HC:=lh hc;have LQ:=lh (lsI_q g);have HE:=lh hE;clear hs hc hE;go_enter Tryz.func92,Tryz.ntmps92
 go_wp2
 go_loopw [5,10] (fun s5 s10 wr=>∃ k:Nat,k≤n∧s10=.int .i64 k∧s5=.int .i64 (lsI g k)∧Below w.heap.size w wr) (fun _ v _=>n - (intOf v).toNat)
 case atStart=>exact ⟨0,Nat.zero_le _,rfl,rfl,Below.refl _ _⟩
 case round=>
  obtain ⟨k,hk,rfl,rfl,hbw⟩:=hrel;have HB:=lh hbw;clear hbw;by_cases hlt:k < n
  ·have tk':decide ((k:Int) < (n:Int))=true:=decide_eq_true (by omega);have S2:=lh (S.out.below HB.out);obtain ⟨b,o,A1,c1,A2,c2,rfl,hbB,p0,p1,p2,p3,s1,s2⟩:=S2.out.at_ k hlt;have hm:lsI g k < n:=(by have:=(LQ.out k).2.2; omega);obtain ⟨b',o',B1,d1,B2,d2,e2,-,r0,r1,r2,r3,t1,t2⟩:=S2.out.at_ (lsI g k) hm;cases e2
   have NX:Hid (lsI g (k+1)=if g k < g (lsI g k) then k else lsI g k):=rfl;have HCk:=lh (HC.out k (lsI g k) hlt hm A1 c1 A2 c2 B1 d1 B2 d2);have CZ:Hid (cmpZ (g k) (g (lsI g k)) < 0 ↔ g k < g (lsI g k)):=(by unfold Hid cmpZ; split <;> (try split) <;> omega);have S1:=lh s1;have S3:=lh s2;have T1:=lh t1;have T3:=lh t2;clear s1 s2 t1 t2 S2;generalize cmpZ (g k) (g (lsI g k))=z at *;generalize lsI g k=m at *;skip;generalize (wOf (f k).1).1=bx1 at *;generalize (wOf (f k).1).2=lx1 at *;generalize (wOf (f k).2).1=bx2 at *;generalize (wOf (f k).2).2=lx2 at *;obtain ⟨by1,hby1⟩:∃ q,q=(wOf (f m).1).1:=⟨_,rfl⟩;obtain ⟨ly1,hly1⟩:∃ q,q=(wOf (f m).1).2:=⟨_,rfl⟩;obtain ⟨by2,hby2⟩:∃ q,q=(wOf (f m).2).1:=⟨_,rfl⟩;obtain ⟨ly2,hly2⟩:∃ q,q=(wOf (f m).2).2:=⟨_,rfl⟩;rw [← hby1] at r0 HCk;rw [← hly1] at r1 HCk T1;rw [← hby2] at r2 HCk;rw [← hly2] at r3 HCk T3;clear hby1 hly1 hby2 hly2;go_upto_region 5 with fail
   generalize hwx:wr.alloc (.cells #[.bool bx1,.slice A1 lx1.length c1,.bool bx2,.slice A2 lx2.length c2] 161)=wx at *;have hbx:Below wr.heap.size wr wx:=(by rw [← hwx]; exact blw1 _ _);have KX:Hid (BlkV wx wr.heap.size 161 #[.bool bx1,.slice A1 lx1.length c1,.bool bx2,.slice A2 lx2.length c2]):=(by rw [← hwx]; exact BlkV.fresh rfl _ _);replace HB:=lh (q0a HB.out hbx);replace r0:=q0b hbx r0;replace r1:=q0b hbx r1;replace r2:=q0b hbx r2;replace r3:=q0b hbx r3;replace S1:=lh (S1.out.below hbx);replace S3:=lh (S3.out.below hbx);replace T1:=lh (T1.out.below hbx);replace T3:=lh (T3.out.below hbx);clear hwx hbx p0 p1 p2 p3;generalize wr.heap.size=gx at *;have q0:=KX.out.at_ 0 rfl;have q1:=KX.out.at_ 1 rfl;have q2:=KX.out.at_ 2 rfl;have q3:=KX.out.at_ 3 rfl;have HD:Hid (Below w.heap.size w wx.drew):=HB.out.drew;have m0:(0:Int)≤(m:Int):=(by omega);have m1:(m:Int) < (n:Int):=(by omega);refine wp_region_held_drew (S:=fun w'=>w'.cell? ⟨gx,0,none⟩=some (.bool bx1)∧w'.cell? ⟨gx,1,none⟩=some (.slice A1 lx1.length c1)∧w'.cell? ⟨gx,2,none⟩=some (.bool bx2)∧w'.cell? ⟨gx,3,none⟩=some (.slice A2 lx2.length c2)∧w'.cell? ⟨b,o+m * 4,none⟩=some (.bool by1)∧w'.cell? ⟨b,o+m * 4+1,none⟩=some (.slice B1 ly1.length d1)∧w'.cell? ⟨b,o+m * 4+2,none⟩=some (.bool by2)∧w'.cell? ⟨b,o+m * 4+3,none⟩=some (.slice B2 ly2.length d2)) (by kernel_rfl) ⟨q0,q1,q2,q3,r0,r1,r2,r3⟩ (fun hHeld=>?_);replace S1:Hid (Sl wx.drew _ _ _):=S1.out.drew;replace S3:Hid (Sl wx.drew _ _ _):=S3.out.drew;replace T1:Hid (Sl wx.drew _ _ _):=T1.out.drew;replace T3:Hid (Sl wx.drew _ _ _):=T3.out.drew;clear HB KX;have JQ:Hid (wx.drew.cell? ⟨gx,0,none⟩=some (.bool bx1)∧wx.drew.cell? ⟨gx,1,none⟩=some (.slice A1 lx1.length c1)∧wx.drew.cell? ⟨gx,2,none⟩=some (.bool bx2)∧wx.drew.cell? ⟨gx,3,none⟩=some (.slice A2 lx2.length c2)∧wx.drew.cell? ⟨b,o+m * 4,none⟩=some (.bool by1)∧wx.drew.cell? ⟨b,o+m * 4+1,none⟩=some (.slice B1 ly1.length d1)∧wx.drew.cell? ⟨b,o+m * 4+2,none⟩=some (.bool by2)∧wx.drew.cell? ⟨b,o+m * 4+3,none⟩=some (.slice B2 ly2.length d2)):=⟨q0,q1,q2,q3,r0,r1,r2,r3⟩;clear q0 q1 q2 q3 r0 r1 r2 r3;generalize wx.drew=D at *;refine tk 0 (.func (.func G) #[] #[]) rfl ?_;(try simp only [Act.put,z0q,z1q,z3q,z4q,z5q]);refine tk 1 (.agg #[.bool bx1,.slice A1 lx1.length c1,.bool bx2,.slice A2 lx2.length c2]) rfl ?_;(try simp only [Act.put,z0q,z1q,z2q,z3q,z4q,z5q]);refine tk 2 (.slice (some ⟨b,o,none⟩) n c) rfl ?_;(try simp only [Act.put,z0q,z1q,z2q,z3q,z4q,z5q]);refine tk 3 (.int .i64 m) rfl ?_;(try simp only [Act.put,z0q,z1q,z2q,z3q,z4q,z5q]);refine tk 4 (.pointer (some ⟨b,o+m * 4,none⟩)) rfl ?_;(try simp only [Act.put,z0q,z1q,z2q,z3q,z4q,z5q]);refine tk 5 (.agg #[.bool by1,.slice B1 ly1.length d1,.bool by2,.slice B2 ly2.length d2]) rfl ?_;(try simp only [Act.put,z0q,z1q,z2q,z3q,z4q,z5q]);refine wpAnyH_ready (rs:=[6]) (by kernel_rfl) (by simp) ?_;refine AllReadyH.cons rfl (fun K hK=>?_) AllReadyH.nil;have HE9:=HE.out;go_simp
   (with_reducible refine (HCk.out D S1.out S3.out T1.out T3.out).mono ?_);rintro e v1 ⟨rfl,hb⟩;(try dsimp only);have JV:Hid (v1.cell? ⟨gx,0,none⟩=some (.bool bx1)∧v1.cell? ⟨gx,1,none⟩=some (.slice A1 lx1.length c1)∧v1.cell? ⟨gx,2,none⟩=some (.bool bx2)∧v1.cell? ⟨gx,3,none⟩=some (.slice A2 lx2.length c2)∧v1.cell? ⟨b,o+m * 4,none⟩=some (.bool by1)∧v1.cell? ⟨b,o+m * 4+1,none⟩=some (.slice B1 ly1.length d1)∧v1.cell? ⟨b,o+m * 4+2,none⟩=some (.bool by2)∧v1.cell? ⟨b,o+m * 4+3,none⟩=some (.slice B2 ly2.length d2)):=(by obtain ⟨a1,a2,a3,a4,a5,a6,a7,a8⟩:=JQ.out; exact ⟨q0b hb a1,q0b hb a2,q0b hb a3,q0b hb a4,q0b hb a5,q0b hb a6,q0b hb a7,q0b hb a8⟩);have HN:=lh (q0a HD.out hb);clear hb HD JQ S1 S3 T1 T3 HCk;(try go_wp2_with fail);refine hK.out _ _ JV.out (fun hHeld2=>?_);clear hK K hHeld;have hHeld:=hHeld2;clear hHeld2;(try simp only [Act.put,z0q,z1q,z2q,z3q,z4q,z5q]);refine tk 7 (.bool (decide (z < 0))) rfl ?_;(try simp only [Act.put,z0q,z1q,z2q,z3q,z4q,z5q]);refine wpAnyH_done (by kernel_rfl) ?_ _;clear JV hHeld;by_cases hz:z < 0
   ·have tz:decide (z < 0)=true:=decide_eq_true hz;have E:Hid (lsI g (k+1)=k):=NX.out.trans (if_pos (CZ.out.1 hz));clear NX CZ;go_wp2
    go_roundw
    case rel=>exact ⟨k+1,by omega,by go_num,by rw [E.out],HN.out⟩
    case measure=>simp [intOf]; omega
   ·have tz:decide (z < 0)=false:=decide_eq_false hz;have E:Hid (lsI g (k+1)=m):=NX.out.trans (if_neg (fun h=>hz (CZ.out.2 h)));clear NX CZ;go_wp2
    go_roundw
    case rel=>exact ⟨k+1,by omega,by go_num,by rw [E.out],HN.out⟩
    case measure=>simp [intOf]; omega
  ·obtain rfl:k=n:=by omega
   have tk':decide ((k:Int) < (k:Int))=false:=decide_eq_false (by omega);go_wp2
   go_ret
   exact ⟨rfl,HB.out⟩
end Go.Proofs.YtgnjhlnolihgcaaGreat
namespace Go.Proofs.YtgnjhlnolihgcaaGreat
open List renaming getElem_toArray → z0q, getElem_cons_zero → z1q, getElem_cons_succ → z2q, setIfInBounds_toArray → z3q, set_cons_zero → z4q, set_cons_succ → z5q
open Lib renaming hid → lh
open Go.RowKit Go.Shelf
attribute [local go_sem ↓] Go.wp_at_zero Go.wp_at_succ
attribute [local go_sem] Oper.semAt_some
abbrev RunT (op:Nat→Bool) (n:Nat):={ r:Nat × Nat // RunQ op n r.1 r.2 }
def encR {op:Nat→Bool} {n:Nat} (r:RunT op n):Array Value:=#[.int .i64 r.1.1,.int .i64 r.1.2]
theorem grown_of_below {W W':World} (h:Below W.heap.size W W'):W.grownBy W' none:=⟨h.os,h.tape,h.output,h.size,fun k hk _=>h.block k hk⟩
theorem rnF_true {op:Nat→Bool} {k:Nat} (h:op k=true):rnF op (k+1)=(if rnF op k < 0 then (k:Int) else rnF op k)∧rnL op (k+1)=rnL op k:=by
 refine ⟨?_,?_⟩
 ·show (if op k then _ else _)=_
  rw [h,if_pos rfl]
 ·show (if _ then _ else _)=_
  rw [if_neg (by rw [h]; simp)]
theorem rnF_false {op:Nat→Bool} {k:Nat} (h:op k=false):rnF op (k+1) = -1∧(rnF op k < 0→rnL op (k+1)=rnL op k)∧(0≤rnF op k→rnL op (k+1)=rnL op k ++ [((rnF op k).toNat,k - 1)]):=by
 refine ⟨?_,fun h2=>?_,fun h2=>?_⟩
 ·show (if op k then _ else _)=_
  rw [h];rfl
 ·show (if _ then _ else _)=_
  rw [if_neg (by omega)]
 ·show (if _ then _ else _)=_
  rw [if_pos ⟨h,h2⟩]
theorem RunQ.more {op:Nat→Bool} {n m a b:Nat} (h:RunQ op n a b) (hm:n≤m):RunQ op m a b:=⟨h.ab,by have:=h.bn; omega,h.all,h.lo⟩
theorem runs_in (A:Option Addr) (m c:Nat) (fv:Value) (G:Nat) (bs:Array Value) (hfv:fv=.func (.func G) bs #[]) (n:Nat) (w:World) :
  CallsIn Fence.wide n Tryz.prog 91 #[.slice A m c,fv] w fun e w'=>e=.returned (.func (.func 139) #[] #[.pointer (some ⟨w.heap.size,0,none⟩),.pointer (some ⟨w.heap.size+1,0,none⟩)])∧w'=(w.alloc (.cells #[.slice A m c] 151)).alloc (.cells #[fv] 156):=by
 refine callsIn_of_wp Tryz.func91 rfl trivial ?_ rfl;simp only [Tryz.ntmps91,List.size_toArray,List.length_cons,List.length_nil,Nat.reduceAdd,Nat.reduceSub,Array.replicate_succ,Array.replicate_zero,List.push_toArray,List.append_toArray,List.nil_append,List.cons_append];subst hfv;gi_wp2
 go_ret
 exact ⟨rfl,rfl⟩
theorem runs1_sub (n:Nat) (hn:1≤n) (g1 g2:Nat) (A:Option Addr) (m c Bd:Nat) (f:Nat→Int × Int) (z:Int) (Z1:Option Addr) (e1:Nat) (w:World) (op:Nat→Bool) (hop:∀ k,op k=decide ((f k).1≤z)) (hm:m≤200) (ff:∀ k,k < m→fitZ (f k).1) (fz:fitZ z)
  (Kp:World→World→Prop) (Inv:World→Prop) (hI0:∀ W,Below w.heap.size w W→Inv W) (hIK:∀ W W',Inv W→Kp W W'→Inv W') (hIA:∀ W W',Inv W→Below W.heap.size W W'→Inv W')
  (hIr:∀ W,Inv W→W.cell? ⟨g1,0,none⟩=some (.slice A m c)∧W.cell? ⟨g2,0,none⟩=some (.func (.func 90) #[.agg #[.bool (wOf z).1,.slice Z1 (wOf z).2.length e1]] #[])∧SlN W Bd A m f c∧Sl W Z1 (wOf z).2 e1) :
  SeqStopsK Fence.wide n Tryz.prog 139 #[.pointer (some ⟨g1,0,none⟩),.pointer (some ⟨g2,0,none⟩)] (encR (op:=op) (n:=m)) Kp (fun ys=>ys.map (·.1)=rnA op m) (fun _=>True) (m+1) w:=fun lp J Jx W hW hAJ _ hY h0=>by
 have FF:=lh ff;have FZ:=lh fz;have HIA:=lh hIA;have HIR:=lh hIr;have HAJ:=lh hAJ;have HIK:=lh hIK;have HYY:=lh hY;have HI1:=lh (hI0 W hW);have HJ0:=lh h0;clear ff fz hIA hIr hAJ hIK hY hI0 h0 hW;skip;have ABJ:Hid (∀ ys V V',J ys V→Below V.heap.size V V'→J ys V'):=fun ys V V' hj hb=>HAJ.out ys V V' none hj (grown_of_below hb) (fun r e=>by cases e);clear HAJ;have NF:=lh (rnF_bd op);have TR:=lh (fun k=>@rnF_true op k);have FL:=lh (fun k=>@rnF_false op k);have LQ:=lh (rnL_q op);have AQ:Hid (∀ k,rnA op k=if 0≤rnF op k then rnL op k ++ [((rnF op k).toNat,k - 1)] else rnL op k):=fun _=>rfl;have OPK:Hid (∀ k,k < m→∀ A1 c1 A2 c2 V,Sl V A1 (wOf (f k).1).2 c1→Sl V Z1 (wOf z).2 e1→Calls Tryz.prog 90 #[.agg #[.bool (wOf z).1,.slice Z1 (wOf z).2.length e1],.agg #[.bool (wOf (f k).1).1,.slice A1 (wOf (f k).1).2.length c1,.bool (wOf (f k).2).1,.slice A2 (wOf (f k).2).2.length c2]] V fun e w'=>e=.returned (.bool (op k))∧Below V.heap.size V w'):=fun k hk A1 c1 A2 c2 V s1 t1=>by rw [hop k]; exact open_any (f k) z (FF.out k hk) FZ.out A1 c1 A2 c2 Z1 e1 V s1 t1
 clear FF FZ hop;refine callsIn_of_wp Tryz.func139 rfl trivial ?_ rfl;simp only [Tryz.ntmps139,List.size_toArray,List.length_cons,List.length_nil,Nat.reduceAdd,Nat.reduceSub,Array.replicate_succ,Array.replicate_zero,List.push_toArray,List.append_toArray,List.nil_append,List.cons_append];obtain ⟨q1,-,-,-⟩:=HIR.out W HI1.out;gi_wp2
 gi_loopw [4,9] (fun s4 s9 wr=>∃ k:Nat,k≤m∧s9=.int .i64 k∧s4=.int .i64 (rnF op k)∧(∃ ys:List (RunT op m),ys.map (·.1)=rnL op k∧J ys wr)∧Inv wr) (fun _ v _=>m - (intOf v).toNat)
 case atStart=>exact ⟨0,Nat.zero_le _,rfl,rfl,⟨[],rfl,HJ0.out⟩,HI1.out⟩
 case round=>
  clear q1 HI1 HJ0;obtain ⟨k,hk,rfl,rfl,⟨ys,hys,hJ⟩,hI⟩:=hrel;have YS:=lh hys;have JY:=lh hJ;have II:=lh hI;clear hys hJ hI;obtain ⟨nf0,nf1⟩:=NF.out k;have HLE:ys.length≤k:=(by have h1:=congrArg List.length YS.out; have h2:=(LQ.out k).2.2.2.2.1; rw [List.length_map] at h1; omega);by_cases hlt:k < m
  ·have tk':decide ((k:Int) < (m:Int))=true:=decide_eq_true (by omega);obtain ⟨p1,p2,hs,hz⟩:=HIR.out wr II.out;have SZ:=lh hz;obtain ⟨b,oo,A1,c1,A2,c2,rfl,-,q0,q1,q2,q3,s1,s2⟩:=hs.at_ k hlt;have S1:=lh s1;clear hs hz s1 s2;have OK:=lh (OPK.out k hlt A1 c1 A2 c2);have TRk:=lh (TR.out k);have FLk:=lh (FL.out k);generalize (wOf (f k).1).1=bx1 at *;generalize (wOf (f k).1).2=lx1 at *;generalize (wOf (f k).2).1=bx2 at *;generalize (wOf (f k).2).2=lx2 at *;have hl1:=lt_of_cell (a:=⟨g1,0,none⟩) p1;have hl2:=lt_of_cell (a:=⟨g2,0,none⟩) p2;gi_wp2_with fail
   generalize hwx:wr.alloc (.cells #[.bool bx1,.slice A1 lx1.length c1,.bool bx2,.slice A2 lx2.length c2] 161)=wx at *;have hbx:Below wr.heap.size wr wx:=(by rw [← hwx]; exact blw1 _ _);refine ⟨trivial,?_⟩;refine (callsIn_wide.2 (OK.out wx (S1.out.below hbx) (SZ.out.below hbx))).mono ?_;clear OK;rintro e w2 ⟨rfl,hb⟩;have hb2:=lh (q0a hbx hb);replace II:=lh (HIA.out _ _ II.out hb2.out);replace JY:=lh (ABJ.out _ _ _ JY.out hb2.out);clear hwx hbx hb hb2 S1 SZ q0 q1 q2 q3 p1 p2 hl1 hl2
   cases ho:op k with
   | true=>
    obtain ⟨n1,n2⟩:=TRk.out ho;clear TRk FLk ho;by_cases hf:rnF op k < 0
    ·have tf:decide (rnF op k < 0)=true:=decide_eq_true hf;rw [if_pos hf] at n1;replace n1:=lh n1;replace n2:=lh n2;gi_wp2
     go_roundw
     case rel=>exact ⟨k+1,by omega,by go_num,by rw [n1.out],⟨ys,by rw [n2.out]; exact YS.out,JY.out⟩,II.out⟩
     case measure=>simp [intOf]; omega
    ·have tf:decide (rnF op k < 0)=false:=decide_eq_false hf;rw [if_neg hf] at n1;replace n1:=lh n1;replace n2:=lh n2;gi_wp2
     go_roundw
     case rel=>exact ⟨k+1,by omega,by go_num,by rw [n1.out],⟨ys,by rw [n2.out]; exact YS.out,JY.out⟩,II.out⟩
     case measure=>simp [intOf]; omega
   | false=>
    obtain ⟨n1,n2,n3⟩:=FLk.out ho;clear TRk FLk ho;replace n1:=lh n1;by_cases hf:0≤rnF op k
    ·have tf:decide (0≤rnF op k)=true:=decide_eq_true hf;obtain ⟨hlt2,hq⟩:=nf1 hf;replace n3:=lh (n3 hf);clear n2;obtain ⟨a,ha⟩:∃ a:Nat,rnF op k=a:=⟨(rnF op k).toNat,by omega⟩;obtain ⟨j,rfl⟩:∃ j,k=j+1:=⟨k - 1,by omega⟩;have hr:RunQ op m a j:=(by have h:=hq.more (m:=m) (by omega); rw [ha] at h; simpa using h);have hYz:=HYY.out ys;skip;obtain ⟨fn,tmps,assign,body,hy,hR⟩:=hYz (⟨(a,j),hr⟩:RunT op m) w2 JY.out (by omega);have n4:=lh (show rnL op (j+1+1)=rnL op (j+1) ++ [(a,j)] from by have h:=n3.out; rw [ha] at h; simpa using h);clear n3 hYz hq nf1;skip;replace ha:=ha;skip;dsimp only [encR] at hy hR;gi_wp2
     refine hR.mono ?_;rintro e W3 (⟨rfl,hJ3,hk3⟩ | ⟨rfl,hJx3⟩)
     ·have II3:=lh (HIK.out _ _ II.out hk3);gi_wp2
      go_roundw
      case rel=>exact ⟨j+1+1,by omega,by go_num,by rw [n1.out],⟨_,by rw [List.map_append,n4.out,YS.out]; rfl,hJ3⟩,II3.out⟩
      case measure=>simp [intOf]; omega
     ·gi_wp2
      refine bodyPost_ret (results_none rfl _ _ _) rfl ?_;exact ⟨⟨_,rfl⟩,.inr ⟨_,trivial,hJx3⟩⟩
    ·have tf:decide (0≤rnF op k)=false:=decide_eq_false hf;replace n2:=lh (n2 (by omega));clear n3;gi_wp2
     refine ⟨fun _ h=>(by cases h),?_⟩;gi_wp2
     go_roundw
     case rel=>exact ⟨k+1,by omega,by go_num,by rw [n1.out],⟨ys,by rw [n2.out]; exact YS.out,JY.out⟩,II.out⟩
     case measure=>simp [intOf]; omega
  ·obtain rfl:k=m:=by omega
   have tk':decide ((k:Int) < (k:Int))=false:=decide_eq_false (by omega);obtain ⟨p1,-,-,-⟩:=HIR.out wr II.out;have AQk:=lh (AQ.out k);by_cases hf:0≤rnF op k
   ·have tf:decide (0≤rnF op k)=true:=decide_eq_true hf;obtain ⟨hlt2,hq⟩:=nf1 hf;obtain ⟨a,ha⟩:∃ a:Nat,rnF op k=a:=⟨(rnF op k).toNat,by omega⟩;obtain ⟨j,rfl⟩:∃ j,k=j+1:=⟨k - 1,by omega⟩;have hr:RunQ op (j+1) a j:=(by have h:=hq; rw [ha] at h; simpa using h);obtain ⟨fn,tmps,assign,body,hy,hR⟩:=HYY.out ys (⟨(a,j),hr⟩:RunT op (j+1)) wr JY.out (by omega);have n4:=lh (show rnA op (j+1)=rnL op (j+1) ++ [(a,j)] from by have h:=AQk.out; rw [if_pos hf,ha] at h; simpa using h);clear AQk hq nf1;dsimp only [encR] at hy hR;gi_wp2
    refine hR.mono ?_;rintro e W3 (⟨rfl,hJ3,hk3⟩ | ⟨rfl,hJx3⟩)
    ·gi_wp2
     go_end0
     exact ⟨⟨_,rfl⟩,.inl ⟨_,by rw [List.map_append,n4.out,YS.out]; rfl,hJ3⟩⟩
    ·gi_wp2
     go_end0
     exact ⟨⟨_,rfl⟩,.inr ⟨_,trivial,hJx3⟩⟩
   ·have tf:decide (0≤rnF op k)=false:=decide_eq_false hf;have n4:Hid (rnA op k=rnL op k):=AQk.out.trans (if_neg hf);gi_wp2
    go_end0
    exact ⟨⟨_,rfl⟩,.inl ⟨_,by rw [n4.out]; exact YS.out,JY.out⟩⟩
end Go.Proofs.YtgnjhlnolihgcaaGreat
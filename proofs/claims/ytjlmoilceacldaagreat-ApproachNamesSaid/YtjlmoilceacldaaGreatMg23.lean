import Derived.Test.YtjlmoilceacldaaGreatApE
import Derived.Deep.RegionHeld
set_option maxHeartbeats 8000000
set_option maxRecDepth 100000
namespace Go.Proofs.YtjlmoilceacldaaGreat
open Go.RowKit
theorem ck_zero:chkE [zB]=8:=by
 refine chkE_bad (by decide) (fun b hb=>by rw [List.mem_singleton] at hb; subst hb; rfl) (fun h=>?_);have:=(h.b 0 (by decide)).nm;cases this
theorem sm_gr1:grE []=false∧grE [zB]=false:=⟨rfl,rfl⟩
end Go.Proofs.YtjlmoilceacldaaGreat
namespace Go.Proofs.YtjlmoilceacldaaGreat
open Go.RowKit
noncomputable def htS (bs:List BG) (i:Int) (l:List TB):List PS × Int:=
 if chkA l≠0 then ([],chkA l) else if hasE bs i≠0 then ([],hasE bs i) else paS bs i l (getV bs i).rd
def zT:TB:=⟨0,0,zV6,zV6,zV6,zV6⟩
theorem ck0:chkA []=8:=rfl
theorem ck201:chkA (List.replicate 201 zT)=4:=by
 unfold chkA;rw [if_pos (by rw [List.length_replicate]; decide)]
theorem ck_z:chkA [zT]=8:=rfl
theorem ck_late:chkA [exT 0 10 5 7,exT 11 12 5 7]=8:=rfl
section
variable (A a0 a1 a2:Option Addr)
theorem en_l:chkA [exT 0 10 5 7]=0:=ex_one (by omega) (by omega) (by omega) (by omega)
theorem en_ll:chkA [exT 0 11 5 7]=0:=ex_one (by omega) (by omega) (by omega) (by omega)
theorem en_arg {n:Int} (h:n < 0∨8796093022208 < n):scS [stB A a0 a1 a2] 0 [exT 0 10 5 7] n=([],2):=by
 unfold scS;rw [if_neg (by rw [en_l]; simp),if_pos h]
theorem lk_err {bs:List BG} {i:Int} {t:TB} {e:Int} (h:(gpS bs i t).2=e) (h0:e≠0):lkS bs i [t]=([],e):=by
 unfold lkS;rw [h,if_pos h0]
theorem lk_cons {bs:List BG} {i:Int} {t:TB} {r:List TB} {g:Int × Int} {s:List (Int × Int)} (h:gpS bs i t=(g,0)) (h2:lkS bs i r=(s,0)):lkS bs i (t :: r)=(g :: s,0):=by
 unfold lkS;rw [h];show (if (lkS bs i r).2≠0 then ([],(lkS bs i r).2) else (g :: (lkS bs i r).1,0))=_
 rw [h2];rfl
theorem sc_lk {bs:List BG} {i e:Int} {t:TB} (hc:chkA [t]=0) (h:(gpS bs i t).2=e) (h0:e≠0):scS bs i [t] 5=([],e):=by
 unfold scS;rw [if_neg (by rw [hc]; simp),if_neg (by omega)];unfold paS;rw [lk_err h h0,if_pos h0]
theorem gp_ov {bs:List BG} {i:Int} {t:TB} {v:V6} {e:Int} (hc:chkA [t]=0) (h:ovE bs i t.F t.T=(v,e)) (h0:e≠0):(gpS bs i t).2=e:=by
 unfold gpS;rw [if_neg (by rw [hc]; simp),h,if_pos h0]
theorem en_one:scS [stB A a0 a1 a2] 1 [exT 0 10 5 7] 5=([],6):=by
 refine sc_lk en_l (gp_ov en_l (v:=zV6) ?_ (by decide)) (by decide);unfold ovE;rw [if_pos (st_chk _ _ _ _)];rfl
theorem en_long:scS [stB A a0 a1 a2] 0 [exT 0 11 5 7] 5=([],16):=by
 refine sc_lk en_ll (gp_ov en_ll (v:=zV6) ?_ (by decide)) (by decide);unfold ovE;rw [if_pos (st_chk _ _ _ _)];rfl
theorem en_bad:scS [zB] 0 [exT 0 10 5 7] 5=([],8):=by
 refine sc_lk en_l (gp_ov en_l (v:=zV6) ?_ (by decide)) (by decide);unfold ovE;rw [ck_zero,if_neg (by decide)]
theorem en_nil:nsS [stB A a0 a1 a2] 0 []=(0,8):=rfl
theorem hs_0:hasE [stB A a0 a1 a2] 0=0:=by
 unfold hasE;rw [if_pos (st_chk _ _ _ _)];rfl
theorem hs_m:hasE [stB A a0 a1 a2] (-1)=6:=by
 unfold hasE;rw [if_pos (st_chk _ _ _ _)];rfl
theorem en_hits:htS [stB A a0 a1 a2] 0 [exT 0 10 5 7]=([⟨0,0,0,10,5,7,false⟩],0):=by
 unfold htS;rw [if_neg (by rw [en_l]; simp),hs_0,if_neg (by simp)]
 have e:(getV [stB A a0 a1 a2] 0).rd=5:=by
  unfold getV;rw [hs_0,if_pos rfl];rfl
 rw [e];have h:=ex_sc5 A a0 a1 a2;unfold scS at h;rwa [if_neg (by rw [en_l]; simp),if_neg (by omega)] at h
theorem en_hitm:htS [stB A a0 a1 a2] (-1) [exT 0 10 5 7]=([],6):=by
 unfold htS;rw [if_neg (by rw [en_l]; simp),hs_m,if_pos (by simp)]
def l3:List TB:=[exT 0 3 5 7,⟨3,5,⟨100,100,0,0,0,0⟩,zV6,⟨5,7,0,0,0,0⟩,zV6⟩,exT 5 10 5 7]
theorem l3_ex:l3=[exT 0 3 5 7,exT 3 5 100 100,exT 5 10 5 7]:=rfl
theorem l3_chk:chkA l3=0:=by
 have e0:=ex_chk (F:=0) (T:=3) (a:=5) (b:=7) (by omega) (by omega) (by omega) (by omega);have e1:=ex_chk (F:=3) (T:=5) (a:=100) (b:=100) (by omega) (by omega) (by omega) (by omega);have e2:=ex_chk (F:=5) (T:=10) (a:=5) (b:=7) (by omega) (by omega) (by omega) (by omega)
 have e:okLs l3 l3.length=true:=by
  show (((okTb (exT 0 3 5 7) && (decide (0=0) || decide ((0:Int)=3))) && ((okTb (exT 3 5 100 100) && (decide (1=0) || decide ((3:Int)=3))) && ((okTb (exT 5 10 5 7) && (decide (2=0) || decide ((5:Int)=5))) && true))))=true
  rw [e0,e1,e2];rfl
 unfold chkA;rw [if_neg (by rw [l3_ex]; simp),if_neg (by rw [l3_ex]; simp),if_pos e]
theorem l3_lk:lkS [stB A a0 a1 a2] 0 l3=([(25,49),(10000,49),(25,49)],0):=by
 have g0:=st_gp A a0 a1 a2 (F:=0) (T:=3) (a:=5) (b:=7) (by omega) (by omega) (by omega) (ex_one (by omega) (by omega) (by omega) (by omega));have g1:=st_gp A a0 a1 a2 (F:=3) (T:=5) (a:=100) (b:=100) (by omega) (by omega) (by omega) (ex_one (by omega) (by omega) (by omega) (by omega));have g2:=st_gp A a0 a1 a2 (F:=5) (T:=10) (a:=5) (b:=7) (by omega) (by omega) (by omega) (ex_one (by omega) (by omega) (by omega) (by omega));rw [l3_ex];exact lk_cons g0 (lk_cons g1 (lk_cons g2 rfl))
theorem l3_sc:scS [stB A a0 a1 a2] 0 l3 6=([⟨0,0,0,3,5,7,false⟩,⟨2,2,5,10,5,7,false⟩],0):=by
 unfold scS;rw [if_neg (by rw [l3_chk]; simp),if_neg (by omega)];unfold paS;rw [l3_lk,if_neg (by simp)];rw [show rnA (opS ([(25,49),(10000,49),(25,49)],(0:Int)).1 6) l3.length=[(0,0),(2,2)] from rfl,List.map_cons,List.map_cons,List.map_nil];show ([PS.mk 0 0 0 3 (dnZ 25) (upZ 49) (decide ((49:Int)≤6 ^ 2)),PS.mk 2 2 5 10 (dnZ 25) (upZ 49) (decide ((49:Int)≤6 ^ 2))],(0:Int))=_
 rw [dn25,up49];rfl
theorem l3_ns:nsS [stB A a0 a1 a2] 0 l3=(0,0):=by
 unfold nsS;rw [if_neg (by rw [l3_chk]; simp),l3_lk,if_neg (by simp)];rfl
end
end Go.Proofs.YtjlmoilceacldaaGreat
namespace Go.Proofs.YtjlmoilceacldaaGreat
open Go.RowKit
attribute [local go_sem ↓] Go.wp_at_zero Go.wp_at_succ
theorem egm_any (bs:List BG) (A:Option Addr) (c B:Nat) (i:Int) (w:World) (hs:SlB w B A bs c) (hi:hasE bs i=0) :
  Calls Tryz.prog 48 #[.agg #[.slice A bs.length c],.int .i64 i] w (FRes (frQ (Rat.divInt (getV bs i).gm 1000000000000000000),0) w):=by
 have S:=Lib.hid hs;have HG:=Lib.hid (fun V (hV:Below w.heap.size w V)=>eget_any bs A c B i V (S.out.below hV));have ok:=OkB.get hs i;have g1:=ok.g1;have g2:=ok.g2;rw [hi] at HG;clear hs ok;generalize getV bs i=y at *
 have HOF:Hid (∀ V,Calls Tryz.prog 74 #[.int .i64 y.gm,.int .i64 1000000000000000000] V (FRes (frQ (Rat.divInt y.gm 1000000000000000000),0) V)):=fun V=>by
  have h:=of_any y.gm 1000000000000000000 (by omega) (by omega) (by omega) (by omega) V;rwa [of_q (by omega)] at h
 generalize frQ (Rat.divInt y.gm 1000000000000000000)=R at *;clear hi S;go_enter Tryz.func48,Tryz.ntmps48
 go_wp2_with fail
 generalize hwz:(w.alloc (.cells #[.slice A bs.length c] 24)).alloc _=wz at *;have KO:Hid (BlkV wz (w.heap.size+1) 98 #[.bool false,.slice none 0 0,.bool false,.slice none 0 0]):=(by rw [← hwz]; exact BlkV.fresh (by simp) _ _);have HB:Hid (Below w.heap.size w wz):=(by rw [← hwz]; exact q0a (blw1 _ _) (blw1 _ _));clear hwz;refine (HG.out _ HB.out).mono ?_;rintro e w1 ⟨rfl,hb⟩;replace KO:=Lib.hid (KO.out.keep hb);replace HB:=Lib.hid (q0a HB.out hb);clear hb HG;go_upto_region 2 with fail
 generalize hwx:w1.alloc (.cells #[.string ⟨y.nm.toArray⟩,.int .i64 y.gm,.int .i64 y.rd,.slice y.A y.ss.length y.c] 78)=wx at *;replace KO:Hid (BlkV wx (w.heap.size+1) 98 #[.bool false,.slice none 0 0,.bool false,.slice none 0 0]):=(by rw [← hwx]; exact KO.out.alloc _);have KY:Hid (BlkV wx w1.heap.size 78 #[.string ⟨y.nm.toArray⟩,.int .i64 y.gm,.int .i64 y.rd,.slice y.A y.ss.length y.c]):=(by rw [← hwx]; exact BlkV.fresh rfl _ _);replace HB:Hid (Below w.heap.size w wx):=(by rw [← hwx]; exact q0a HB.out (blw1 _ _));clear hwx;have k1:=KY.out.at_ 1 rfl;go_wp2_with fail
 refine (HOF.out _).mono ?_;rintro e w2 ⟨A1,c1,B1,d1,rfl,hs1,ht1,hb⟩;(try dsimp only at hs1 ht1);(try dsimp only);replace KO:=Lib.hid (KO.out.keep hb);replace HB:=Lib.hid (q0a HB.out hb);clear hb k1 KY HOF;have KQ:Hid (Cf w2 (w.heap.size+1) false none 0 0 false none 0 0):=⟨KO.out.at_ 0 rfl,KO.out.at_ 1 rfl,KO.out.at_ 2 rfl,KO.out.at_ 3 rfl⟩;have FQ:Hid (Ff w2 (w.heap.size+1)):=⟨KO.out.frozen 0,KO.out.frozen 1,KO.out.frozen 2,KO.out.frozen 3⟩;obtain ⟨q0,q1,q2,q3⟩:=KQ.out;obtain ⟨f0,f1,f2,f3⟩:=FQ.out;have hlo:=KO.out.lt;have HS1:=Lib.hid hs1;have HT1:=Lib.hid ht1;clear hs1 ht1;go_wp2
 exact bodyPost_ret (v:=.tuple #[.agg #[.bool R.1.1,.slice A1 R.1.2.length c1,.bool R.2.1,.slice B1 R.2.2.length d1],.int .i64 0]) (by simp [results,Tryz.results48,go_sem,q0,q1,q2,q3]) rfl ⟨A1,c1,B1,d1,rfl,HS1.out.setF KQ.out _ _ _ _,HT1.out.setF KQ.out _ _ _ _,q0q HB.out (Nat.le_succ _) _ _ _ _⟩
end Go.Proofs.YtjlmoilceacldaaGreat
import Derived.Test.YtgnjhlnolihgcaaGreatCal2
import Derived.Test.YtgnjhlnolihgcaaGreatF9
import Derived.Test.YtgnjhlnolihgcaaGreatF25
import Derived.Test.YtgnjhlnolihgcaaGreatW8
set_option maxHeartbeats 2000000
set_option maxRecDepth 100000
namespace Go.Proofs.YtgnjhlnolihgcaaGreat
open Lib renaming hid → lh
open Go.RowKit
attribute [local go_sem ↓] Go.wp_at_zero Go.wp_at_succ
def nte (x e:Int):Int:=if x=0 then e else x
theorem setCell_same {w:World} {g:Nat} {t:TypeId} {cs:Array Value} {i:Nat} {v:Value} (h:BlkV w g t cs) (hv:cs[i]? = some v):w.setCell ⟨g,i,none⟩ v=w:=by
 have hs:cs.setIfInBounds i v=cs:=by
  apply Array.ext_getElem?
  intro j;rw [Array.getElem?_setIfInBounds];split
  ·next e=>subst e; rw [hv]; split <;> simp_all
  ·rfl
 unfold BlkV at h
 have hm:∀ F:Obj→Obj,F (.cells cs t (0,0))=.cells cs t (0,0)→w.heap.modify g F=w.heap:=fun F hF=>by
  apply Array.ext_getElem?
  intro j;rw [Array.getElem?_modify];split
  ·next e=>subst e; rw [h]; simp [hF]
  ·rfl
 unfold World.setCell;rw [hm _ (by simp [hs])]
structure St (g:Nat) (x x':Int) (w w':World):Prop where
 but:But g w w'
 cell:BlkV w' g 107 #[.int .i64 x']
theorem below_sub {w w':World} (h:Below w.heap.size w w'):Below w.heap.size w w':=h
theorem BlkV.but {w w':World} {g g':Nat} {t:TypeId} {cs:Array Value} (h:BlkV w g t cs) (hb:But g' w w') (hne:g≠g'):BlkV w' g t cs:=(hb.block g h.lt hne).trans h
theorem Sl.st {w w':World} {A:Option Addr} {l:List Nat} {c g:Nat} {t:TypeId} {x:Int} (h:Sl w A l c) (k:BlkV w g t #[.int .i64 x]) (hb:But g w w'):Sl w' A l c:=by
 refine ⟨fun hl=>?_,h.lim,h.le,h.len⟩;obtain ⟨b,o,e,hc⟩:=h.rd hl;refine ⟨b,o,e,fun i hi=>?_⟩;refine hb.cell (hc i hi) (fun e2=>?_);have e2:b=g:=e2;subst e2;have h1:=(k.cell (o+i)).symm.trans (hc i hi);rcases Nat.eq_zero_or_pos (o+i) with h0 | h0
 ·rw [h0] at h1; simp at h1
 ·rw [Array.getElem?_eq_none (by simp; omega)] at h1; cases h1
theorem SlI.but {w w':World} {B g:Nat} {A:Option Addr} {l:List Int} {c:Nat} (h:SlI w B A l c) (hb:But g w w') (hg:B≤g):SlI w' B A l c:=
 ⟨fun hl=>by
  obtain ⟨b,o,e,hB,hc⟩:=h.rd hl;exact ⟨b,o,e,hB,fun i v hv=>hb.cell (hc i v hv) (by show b≠g; omega)⟩,h.lim,h.le,h.len⟩
theorem note_ok (g:Nat) (x:Int) (w:World) (h:BlkV w g 107 #[.int .i64 x]) :
  Calls Tryz.prog 50 #[.pointer (some ⟨g,0,none⟩),.int .i64 0] w fun e w'=>e=.returned (.tuple #[])∧w=w':=by
 have q0:w.cell? ⟨g,0,none⟩=some (.int .i64 x):=h.at_ 0 rfl;have f0:=h.frozen 0;by_cases hx:x=0
 ·have E:Hid (w.setCell ⟨g,0,none⟩ (.int .i64 0)=w):=(by subst hx; exact setCell_same h rfl);have t1:(x == 0)=true:=(by rw [beq_iff_eq]; exact hx);clear hx h;go_enter Tryz.func50,Tryz.ntmps50
  go_wp2
  go_end0
  exact ⟨rfl,E.out.symm⟩
 ·have t1:(x == 0)=false:=(by rw [beq_eq_false_iff_ne]; exact hx);clear hx h;go_enter Tryz.func50,Tryz.ntmps50
  go_wp2
  go_end0
  exact ⟨rfl,rfl⟩
theorem note_any (g:Nat) (x k:Int) (w:World) (h:BlkV w g 107 #[.int .i64 x]) :
  Calls Tryz.prog 50 #[.pointer (some ⟨g,0,none⟩),.int .i64 k] w fun e w'=>e=.returned (.tuple #[])∧St g x (nte x k) w w':=by
 have q0:w.cell? ⟨g,0,none⟩=some (.int .i64 x):=h.at_ 0 rfl;have f0:=h.frozen 0;have HB:=lh h;by_cases hx:x=0
 ·have t1:(x == 0)=true:=(by rw [beq_iff_eq]; exact hx);have E:Hid (nte x k=k):=if_pos hx;clear hx h;go_enter Tryz.func50,Tryz.ntmps50
  go_wp2
  go_end0
  exact ⟨rfl,(But.refl g w).set _ rfl _,by rw [E.out]; exact HB.out.put 0 _ rfl⟩
 ·have t1:(x == 0)=false:=(by rw [beq_eq_false_iff_ne]; exact hx);have E:Hid (nte x k=x):=if_neg hx;clear hx h;go_enter Tryz.func50,Tryz.ntmps50
  go_wp2
  go_end0
  exact ⟨rfl,But.refl g w,by rw [E.out]; exact HB.out⟩
theorem cof_any (g:Nat) (x n m:Int) (h1 : -9223372036854775808≤n) (h2:n≤9223372036854775807) (h3 : -9223372036854775808≤m) (h4:m≤9223372036854775807) (hm0:m≠0) (w:World) (hc:BlkV w g 107 #[.int .i64 x]) :
  Calls Tryz.prog 61 #[.pointer (some ⟨g,0,none⟩),.int .i64 n,.int .i64 m] w (FRes1 (redZ n m) w):=by
 have KC:=lh hc
 have hF:Hid (∀ W,Calls Tryz.prog 31 #[.int .i64 n,.int .i64 m] W (FRes (redZ n m,0) W)):=fun W=>by
  have h:=of_any n m h1 h2 h3 h4 W;unfold ofS at h;rwa [if_neg hm0] at h
 have B:Hid (Below w.heap.size w w):=Below.refl _ _;clear hc hm0;generalize redZ n m=R at *;obtain ⟨⟨nx,lx⟩,⟨ny,ly⟩⟩:=R;go_enter Tryz.func61,Tryz.ntmps61
 go_wp2_with fail
 refine (hF.out _).mono ?_;rintro e w1 ⟨A1,c1,B1,d1,rfl,hs1,ht1,hb⟩;have Fo:Hid (Ff w1 w.heap.size):=Ff.keep (Ff.fresh (by simp) _ _) (Cf.fresh (by simp) _ _ _ _ _ _ _ _ _) hb;have Ko:Hid (Cf w1 w.heap.size false none 0 0 false none 0 0):=Cf.keep (Cf.fresh (by simp) _ _ _ _ _ _ _ _ _) hb;replace B:=kB1 B hb;replace KC:Hid (BlkV w1 g 107 #[.int .i64 x]):=BlkV.keep (KC.out.alloc _) hb;clear hb;(try dsimp only at hs1 ht1);(try dsimp only);have Sx:Hid (Sl w1 A1 lx c1):=hs1;clear hs1;have Sy:Hid (Sl w1 B1 ly d1):=ht1;clear ht1;have hzo:=lF Ko;have hkof:=hzo;go_wp2_with fail
 refine (note_ok g x _ (KC.out.alloc _)).mono ?_;rintro e w' ⟨rfl,rfl⟩;obtain ⟨qo0,qo1,qo2,qo3⟩:=Ko.out;obtain ⟨fo0,fo1,fo2,fo3⟩:=Fo.out;go_wp2
 exact bodyPost_ret (v:=.agg #[.bool nx,.slice A1 lx.length c1,.bool ny,.slice B1 ly.length d1]) (by simp [results,Tryz.results61,go_sem,qo0,qo1,qo2,qo3,hzo]) rfl (part_end (r:=((nx,lx),(ny,ly))) Sx.out Sy.out Ko.out B.out (by omega) _ _ _ _ _)
theorem cmul_any (g:Nat) (x:Int) (n1 n2 n3 n4:Bool) (A1 A2 A3 A4:Option Addr) (l1 l2 l3 l4:List Nat) (c1 c2 c3 c4:Nat) (R:(Bool × List Nat) × (Bool × List Nat)) (hR:bothF n1 l1 n2 l2 n3 l3 n4 l4 mulV=(R,0)) (w:World) (hc:BlkV w g 107 #[.int .i64 x]) (hs1:Sl w A1 l1 c1) (hs2:Sl w A2 l2 c2) (hs3:Sl w A3 l3 c3) (hs4:Sl w A4 l4 c4) :
  Calls Tryz.prog 62 #[.pointer (some ⟨g,0,none⟩),.agg #[.bool n1,.slice A1 l1.length c1,.bool n2,.slice A2 l2.length c2],.agg #[.bool n3,.slice A3 l3.length c3,.bool n4,.slice A4 l4.length c4]] w (FRes1 R w):=by
 have KC:=lh hc;have S1:=lh hs1;have S2:=lh hs2;have S3:=lh hs3;have S4:=lh hs4;have HR:=lh hR;have B:Hid (Below w.heap.size w w):=Below.refl _ _;clear hc hs1 hs2 hs3 hs4 hR;obtain ⟨⟨nx,lx⟩,⟨ny,ly⟩⟩:=R;go_enter Tryz.func62,Tryz.ntmps62
 go_wp2_with fail
 refine (fmul_good n1 n2 n3 n4 _ _ _ _ l1 l2 l3 l4 _ _ _ _ (congrArg Prod.snd HR.out) _ (((S1.out.alloc _).alloc _).alloc _) (((S2.out.alloc _).alloc _).alloc _) (((S3.out.alloc _).alloc _).alloc _) (((S4.out.alloc _).alloc _).alloc _)).mono ?_;rw [HR.out];rintro e w5 ⟨A5,c5,B5,d5,rfl,hs5,ht5,hb⟩;replace S1:=kS3 S1 hb;replace S2:=kS3 S2 hb;replace S3:=kS3 S3 hb;replace S4:=kS3 S4 hb;have Fo:Hid (Ff w5 (w.heap.size+1+1)):=Ff.keep (Ff.fresh (by simp) _ _) (Cf.fresh (by simp) _ _ _ _ _ _ _ _ _) hb;have Ka:Hid (Cf w5 w.heap.size n1 A1 l1.length c1 n2 A2 l2.length c2):=Cf.keep (Cf.keep (Cf.keep (Cf.fresh (by simp) _ _ _ _ _ _ _ _ _) (blw1 _ _)) (blw1 _ _)) hb;have Kb:Hid (Cf w5 (w.heap.size+1) n3 A3 l3.length c3 n4 A4 l4.length c4):=Cf.keep (Cf.keep (Cf.fresh (by simp) _ _ _ _ _ _ _ _ _) (blw1 _ _)) hb;have Ko:Hid (Cf w5 (w.heap.size+1+1) false none 0 0 false none 0 0):=Cf.keep (Cf.fresh (by simp) _ _ _ _ _ _ _ _ _) hb;replace B:=kB3 B hb;replace KC:Hid (BlkV w5 g 107 #[.int .i64 x]):=BlkV.keep (((KC.out.alloc _).alloc _).alloc _) hb;clear hb;(try dsimp only at hs5 ht5);(try dsimp only);have Sx:Hid (Sl w5 A5 lx c5):=hs5;clear hs5;have Sy:Hid (Sl w5 B5 ly d5):=ht5;clear ht5;have hza:=lF Ka;have hzb:=lF Kb;have hzo:=lF Ko;clear S1;clear S2;clear S3;clear S4;clear Ka;clear Kb;have hkof:=hzo;go_wp2_with fail
 refine (note_ok g x _ (KC.out.alloc _)).mono ?_;rintro e w' ⟨rfl,rfl⟩;obtain ⟨qo0,qo1,qo2,qo3⟩:=Ko.out;obtain ⟨fo0,fo1,fo2,fo3⟩:=Fo.out;go_wp2
 exact bodyPost_ret (v:=.agg #[.bool nx,.slice A5 lx.length c5,.bool ny,.slice B5 ly.length d5]) (by simp [results,Tryz.results62,go_sem,qo0,qo1,qo2,qo3,hzo]) rfl (part_end (r:=((nx,lx),(ny,ly))) Sx.out Sy.out Ko.out B.out (by omega) _ _ _ _ _)
def pixV (z:Int):Int:=if -9223372036854775808≤z∧z≤9223372036854775807 then z else 0
def pixE (z:Int):Int:=if -4294967296≤z∧z≤4294967296 then 0 else 16
theorem nte_zero (x:Int):nte x 0=x:=by unfold nte; split <;> omega
theorem cpixel_any (g:Nat) (x:Int) (n1 n2:Bool) (A1 A2:Option Addr) (l1 l2:List Nat) (c1 c2:Nat) (z:Int) (hz:froundS n1 l1 n2 l2=(wOf z,0)) (fz:fitZ z) (hfit:badF n1 l1 n2 l2=false→fitZ ((zv n1 l1).fmod (zv n2 l2)+(zv n1 l1).fmod (zv n2 l2))) (w:World) (hc:BlkV w g 107 #[.int .i64 x]) (hs1:Sl w A1 l1 c1) (hs2:Sl w A2 l2 c2) :
  Calls Tryz.prog 51 #[.pointer (some ⟨g,0,none⟩),.agg #[.bool n1,.slice A1 l1.length c1,.bool n2,.slice A2 l2.length c2]] w fun e w'=>e=.returned (.int .i64 (pixV z))∧St g x (nte x (pixE z)) w w':=by
 have hgl:=hc.lt;have KC:=lh hc;have S1:=lh hs1;have S2:=lh hs2;have HFit:=lh hfit;obtain ⟨⟨nw,lw⟩,hw⟩:∃ p,p=wOf z:=⟨_,rfl⟩;have vw:=vz_mk hw fz;rw [← hw] at hz;have HZ:=lh hz;have B:Hid (Below w.heap.size w w):=Below.refl _ _;by_cases hi : -9223372036854775808≤z∧z≤9223372036854775807
 ·have EI:Hid (intS nw lw=(z,0)):=(by rw [Hid]; unfold intS; rw [vw.good,vw.zv_eq,if_neg (by simp),if_pos hi]);have EV:Hid (pixV z=z):=if_pos hi;by_cases hp : -4294967296≤z∧z≤4294967296
  ·have EP:Hid (nte x (pixE z)=x):=(by rw [Hid]; unfold pixE; rw [if_pos hp,nte_zero]);have t1:decide (z < -4294967296)=false:=decide_eq_false (by omega);have t2:decide (4294967296 < z)=false:=decide_eq_false (by omega);obtain ⟨hi1,hi2⟩:=hi;clear hc hs1 hs2 hfit hw vw hz hp fz;go_enter Tryz.func51,Tryz.ntmps51
   go_wp2_with fail
   refine (fround_any n1 n2 _ _ l1 l2 _ _ HFit.out _ (S1.out.alloc _) (S2.out.alloc _)).mono ?_;rw [HZ.out];rintro e w3 ⟨A3,c3,rfl,hs3,hb⟩;replace S1:=kS1 S1 hb;replace S2:=kS1 S2 hb;have Ka:Hid (Cf w3 w.heap.size n1 A1 l1.length c1 n2 A2 l2.length c2):=Cf.keep (Cf.fresh (by simp) _ _ _ _ _ _ _ _ _) hb;replace B:=kB1 B hb;replace KC:Hid (BlkV w3 g 107 #[.int .i64 x]):=BlkV.keep (KC.out.alloc _) hb;clear hb;(try dsimp only at hs3);(try dsimp only);have Sw:Hid (Sl w3 A3 lw c3):=hs3;clear hs3;have hza:=lF Ka;clear S1;clear S2;clear Ka;go_wp2_with fail
   refine (note_ok g x _ (KC.out.alloc _)).mono ?_;rintro e w' ⟨rfl,rfl⟩;go_wp2_with fail
   refine (int_any nw _ lw _ _ (Sw.out.alloc _)).mono ?_;rw [EI.out];rintro e w4 ⟨rfl,hb⟩;replace Sw:=kS1 Sw hb;have Kw:Hid (Cw w4 w3.heap.size nw A3 lw.length c3):=Cw.keep (Cw.fresh (by simp) _ _ _ _ _) hb;replace B:=kB1 B hb;replace KC:Hid (BlkV w4 g 107 #[.int .i64 x]):=BlkV.keep (KC.out.alloc _) hb;clear hb;(try dsimp only);have hzw:=lW Kw;go_wp2_with fail
   refine (note_ok g x _ KC.out).mono ?_;rintro e w' ⟨rfl,rfl⟩;go_wp2
   go_ret
   exact ⟨by rw [EV.out]; rfl,.of g (below_sub B.out),by rw [EP.out]; exact KC.out⟩
  ·have EP:Hid (nte x (pixE z)=nte x 16):=(by rw [Hid]; unfold pixE; rw [if_neg hp]);obtain ⟨hi1,hi2⟩:=hi;clear hc hs1 hs2 hfit hw vw hz fz;by_cases hq:z < -4294967296
   ·have t1:decide (z < -4294967296)=true:=decide_eq_true hq;clear hp hq;go_enter Tryz.func51,Tryz.ntmps51
    go_wp2_with fail
    refine (fround_any n1 n2 _ _ l1 l2 _ _ HFit.out _ (S1.out.alloc _) (S2.out.alloc _)).mono ?_;rw [HZ.out];rintro e w3 ⟨A3,c3,rfl,hs3,hb⟩;replace S1:=kS1 S1 hb;replace S2:=kS1 S2 hb;have Ka:Hid (Cf w3 w.heap.size n1 A1 l1.length c1 n2 A2 l2.length c2):=Cf.keep (Cf.fresh (by simp) _ _ _ _ _ _ _ _ _) hb;replace B:=kB1 B hb;replace KC:Hid (BlkV w3 g 107 #[.int .i64 x]):=BlkV.keep (KC.out.alloc _) hb;clear hb;(try dsimp only at hs3);(try dsimp only);have Sw:Hid (Sl w3 A3 lw c3):=hs3;clear hs3;have hza:=lF Ka;clear S1;clear S2;clear Ka;go_wp2_with fail
    refine (note_ok g x _ (KC.out.alloc _)).mono ?_;rintro e w' ⟨rfl,rfl⟩;go_wp2_with fail
    refine (int_any nw _ lw _ _ (Sw.out.alloc _)).mono ?_;rw [EI.out];rintro e w4 ⟨rfl,hb⟩;replace Sw:=kS1 Sw hb;have Kw:Hid (Cw w4 w3.heap.size nw A3 lw.length c3):=Cw.keep (Cw.fresh (by simp) _ _ _ _ _) hb;replace B:=kB1 B hb;replace KC:Hid (BlkV w4 g 107 #[.int .i64 x]):=BlkV.keep (KC.out.alloc _) hb;clear hb;(try dsimp only);have hzw:=lW Kw;go_wp2_with fail
    refine (note_ok g x _ KC.out).mono ?_;rintro e w' ⟨rfl,rfl⟩;go_wp2_with fail
    refine (note_any g x 16 _ KC.out).mono ?_;rintro e w9 ⟨rfl,hst⟩;have HST:=lh hst;clear hst;go_wp2
    go_ret
    exact ⟨by rw [EV.out]; rfl,(But.of g (below_sub B.out)).trans HST.out.but,by rw [EP.out]; exact HST.out.cell⟩
   ·have t1:decide (z < -4294967296)=false:=decide_eq_false hq;have t2:decide (4294967296 < z)=true:=decide_eq_true (by omega);clear hp hq;go_enter Tryz.func51,Tryz.ntmps51
    go_wp2_with fail
    refine (fround_any n1 n2 _ _ l1 l2 _ _ HFit.out _ (S1.out.alloc _) (S2.out.alloc _)).mono ?_;rw [HZ.out];rintro e w3 ⟨A3,c3,rfl,hs3,hb⟩;replace S1:=kS1 S1 hb;replace S2:=kS1 S2 hb;have Ka:Hid (Cf w3 w.heap.size n1 A1 l1.length c1 n2 A2 l2.length c2):=Cf.keep (Cf.fresh (by simp) _ _ _ _ _ _ _ _ _) hb;replace B:=kB1 B hb;replace KC:Hid (BlkV w3 g 107 #[.int .i64 x]):=BlkV.keep (KC.out.alloc _) hb;clear hb;(try dsimp only at hs3);(try dsimp only);have Sw:Hid (Sl w3 A3 lw c3):=hs3;clear hs3;have hza:=lF Ka;clear S1;clear S2;clear Ka;go_wp2_with fail
    refine (note_ok g x _ (KC.out.alloc _)).mono ?_;rintro e w' ⟨rfl,rfl⟩;go_wp2_with fail
    refine (int_any nw _ lw _ _ (Sw.out.alloc _)).mono ?_;rw [EI.out];rintro e w4 ⟨rfl,hb⟩;replace Sw:=kS1 Sw hb;have Kw:Hid (Cw w4 w3.heap.size nw A3 lw.length c3):=Cw.keep (Cw.fresh (by simp) _ _ _ _ _) hb;replace B:=kB1 B hb;replace KC:Hid (BlkV w4 g 107 #[.int .i64 x]):=BlkV.keep (KC.out.alloc _) hb;clear hb;(try dsimp only);have hzw:=lW Kw;go_wp2_with fail
    refine (note_ok g x _ KC.out).mono ?_;rintro e w' ⟨rfl,rfl⟩;go_wp2_with fail
    refine (note_any g x 16 _ KC.out).mono ?_;rintro e w9 ⟨rfl,hst⟩;have HST:=lh hst;clear hst;go_wp2
    go_ret
    exact ⟨by rw [EV.out]; rfl,(But.of g (below_sub B.out)).trans HST.out.but,by rw [EP.out]; exact HST.out.cell⟩
 ·have EI:Hid (intS nw lw=(0,16)):=(by rw [Hid]; unfold intS; rw [vw.good,vw.zv_eq,if_neg (by simp),if_neg hi]);have EV:Hid (pixV z=0):=if_neg hi;have EP:Hid (nte x (pixE z)=nte x 16):=(by rw [Hid]; unfold pixE; rw [if_neg (by omega)]);clear hc hs1 hs2 hfit hw vw hz fz hi;go_enter Tryz.func51,Tryz.ntmps51
  go_wp2_with fail
  refine (fround_any n1 n2 _ _ l1 l2 _ _ HFit.out _ (S1.out.alloc _) (S2.out.alloc _)).mono ?_;rw [HZ.out];rintro e w3 ⟨A3,c3,rfl,hs3,hb⟩;replace S1:=kS1 S1 hb;replace S2:=kS1 S2 hb;have Ka:Hid (Cf w3 w.heap.size n1 A1 l1.length c1 n2 A2 l2.length c2):=Cf.keep (Cf.fresh (by simp) _ _ _ _ _ _ _ _ _) hb;replace B:=kB1 B hb;replace KC:Hid (BlkV w3 g 107 #[.int .i64 x]):=BlkV.keep (KC.out.alloc _) hb;clear hb;(try dsimp only at hs3);(try dsimp only);have Sw:Hid (Sl w3 A3 lw c3):=hs3;clear hs3;have hza:=lF Ka;clear S1;clear S2;clear Ka;go_wp2_with fail
  refine (note_ok g x _ (KC.out.alloc _)).mono ?_;rintro e w' ⟨rfl,rfl⟩;go_wp2_with fail
  refine (int_any nw _ lw _ _ (Sw.out.alloc _)).mono ?_;rw [EI.out];rintro e w4 ⟨rfl,hb⟩;replace Sw:=kS1 Sw hb;have Kw:Hid (Cw w4 w3.heap.size nw A3 lw.length c3):=Cw.keep (Cw.fresh (by simp) _ _ _ _ _) hb;replace B:=kB1 B hb;replace KC:Hid (BlkV w4 g 107 #[.int .i64 x]):=BlkV.keep (KC.out.alloc _) hb;clear hb;(try dsimp only);have hzw:=lW Kw;go_wp2_with fail
  refine (note_any g x 16 _ KC.out).mono ?_;rintro e w9 ⟨rfl,hst⟩;have HST:=lh hst;clear hst;go_wp2
  go_ret
  exact ⟨by rw [EV.out]; rfl,(But.of g (below_sub B.out)).trans HST.out.but,by rw [EP.out]; exact HST.out.cell⟩
end Go.Proofs.YtgnjhlnolihgcaaGreat
import Derived.Test.YtgnjhlnolihgcaaGreatEphCk
import Derived.Test.YtgnjhlnolihgcaaGreatEphV
set_option maxHeartbeats 8000000
set_option maxRecDepth 100000
namespace Go.Proofs.YtgnjhlnolihgcaaGreat
open Lib renaming hid → lh
open Go.RowKit Go.Shelf
attribute [local go_sem ↓] Go.wp_at_zero Go.wp_at_succ
attribute [local go_sem] Oper.semAt_some
def zB:BG:=⟨[],0,0,none,[],0⟩
def zS:SG:=⟨0,0,none,[],0,none,[],0,none,[],0⟩
noncomputable def getV (bs:List BG) (i:Int):BG:=if hasE bs i=0 then (getB bs i).getD zB else zB
theorem getV_err {bs:List BG} {i:Int} (h:hasE bs i≠0):getV bs i=zB:=if_neg h
theorem getV_ok {bs:List BG} {i:Int} (h:hasE bs i=0) (h2:0≤i∧i < bs.length):getV bs i=bs[i.toNat]'(by omega):=by
 unfold getV; rw [if_pos h,getB_some h2]; rfl
theorem hasE_bad {bs:List BG} {i:Int} (h:chkE bs≠0):hasE bs i=chkE bs:=if_neg h
theorem hasE_in {bs:List BG} {i:Int} (h:chkE bs=0) (h2:0≤i∧i < bs.length):hasE bs i=0:=by unfold hasE; rw [if_pos h,if_pos h2]
theorem hasE_out {bs:List BG} {i:Int} (h:chkE bs=0) (h2:¬ (0≤i∧i < bs.length)):hasE bs i=6:=by unfold hasE; rw [if_pos h,if_neg h2]
theorem hasE_zero {bs:List BG} {i:Int} (h:hasE bs i=0):chkE bs=0∧0≤i∧i < bs.length:=by
 unfold hasE at h;split at h
 ·split at h
  ·rename_i h1 h2; exact ⟨h1,h2⟩
  ·omega
 ·omega
theorem OkB.z (w:World) (B:Nat):OkB w B zB:=⟨⟨RdV.nil _ _ _,(fun s h=>by cases h),Nat.zero_le _,Nat.zero_le _⟩,by simp [zB],by simp [zB],by simp [zB],by simp [zB],by simp [zB]⟩
theorem OkB.get {w:World} {B c:Nat} {A:Option Addr} {bs:List BG} (h:SlB w B A bs c) (i:Int):OkB w B (getV bs i):=by
 unfold getV;split
 ·cases hb:getB bs i with
  | none=>exact OkB.z w B
  | some b=>exact h.all b (getB_mem hb)
 ·exact OkB.z w B
theorem eget_any (bs:List BG) (A:Option Addr) (c B:Nat) (i:Int) (w:World) (hs:SlB w B A bs c) :
  Calls Tryz.prog 129 #[.agg #[.slice A bs.length c],.int .i64 i] w fun e w'=>e=.returned (.tuple #[.agg #[.string ⟨(getV bs i).nm.toArray⟩,.int .i64 (getV bs i).gm,.int .i64 (getV bs i).rd,.slice (getV bs i).A (getV bs i).ss.length (getV bs i).c],.int .i64 (hasE bs i)])∧Below w.heap.size w w':=by
 have hlen:=hs.len;have S:=lh hs;clear hs;go_enter Tryz.func129,Tryz.ntmps129
 go_wp2_with (fail)
 generalize hwz:(w.alloc (.cells #[.slice A bs.length c] 24)).alloc (.cells #[.string ⟨#[]⟩,.int .i64 0,.int .i64 0,.slice none 0 0] 92)=wz at *;have KE:Hid (BlkV wz w.heap.size 24 #[.slice A bs.length c]):=(by rw [← hwz]; exact (BlkV.fresh rfl _ _).alloc _);have KO:Hid (BlkV wz (w.heap.size+1) 92 #[.string ⟨#[]⟩,.int .i64 0,.int .i64 0,.slice none 0 0]):=(by rw [← hwz]; exact BlkV.fresh (by simp) _ _);have HB:Hid (Below w.heap.size w wz):=(by rw [← hwz]; exact q0a (blw1 _ _) (blw1 _ _));clear hwz;refine (echeck_any bs A c B wz (S.out.below HB.out)).mono ?_;rintro e w1 ⟨rfl,hb⟩;replace KE:=lh (KE.out.keep hb);replace KO:=lh (KO.out.keep hb);replace HB:=lh (q0a HB.out hb);clear hb;have ke0:=KE.out.at_ 0 rfl;have ko0:=KO.out.at_ 0 rfl;have ko1:=KO.out.at_ 1 rfl;have ko2:=KO.out.at_ 2 rfl;have ko3:=KO.out.at_ 3 rfl;have fo0:=KO.out.frozen 0;have fo1:=KO.out.frozen 1;have fo2:=KO.out.frozen 2;have fo3:=KO.out.frozen 3;have hlo:=KO.out.lt;by_cases h0:chkE bs=0
 ·rw [h0];by_cases hn:i < 0
  ·have t1:decide (i < 0)=true:=decide_eq_true hn;have E1:Hid (hasE bs i=6):=hasE_out h0 (by omega);have E2:Hid (getV bs i=zB):=getV_err (by rw [E1.out]; decide);clear hn h0;go_wp2
   exact bodyPost_ret (v:=.tuple #[.agg #[.string ⟨#[]⟩,.int .i64 0,.int .i64 0,.slice none 0 0],.int .i64 6]) (by simp [results,Tryz.results129,go_sem,ko0,ko1,ko2,ko3]) rfl ⟨by rw [E1.out,E2.out]; rfl,q1a HB.out (Nat.le_succ _) _ _ _ _⟩
  ·have t1:decide (i < 0)=false:=decide_eq_false hn;by_cases hg:(bs.length:Int)≤i
   ·have t2:decide ((bs.length:Int)≤i)=true:=decide_eq_true hg;have E1:Hid (hasE bs i=6):=hasE_out h0 (by omega);have E2:Hid (getV bs i=zB):=getV_err (by rw [E1.out]; decide);clear hn h0 hg;go_wp2
    exact bodyPost_ret (v:=.tuple #[.agg #[.string ⟨#[]⟩,.int .i64 0,.int .i64 0,.slice none 0 0],.int .i64 6]) (by simp [results,Tryz.results129,go_sem,ko0,ko1,ko2,ko3]) rfl ⟨by rw [E1.out,E2.out]; rfl,q1a HB.out (Nat.le_succ _) _ _ _ _⟩
   ·have t2:decide ((bs.length:Int)≤i)=false:=decide_eq_false hg;obtain ⟨k,rfl⟩:∃ k:Nat,i=k:=⟨i.toNat,by omega⟩;have hk:k < bs.length:=(by omega);have E1:Hid (hasE bs k=0):=hasE_in h0 (by omega);have E2:Hid (getV bs k=bs[k]'hk):=getV_ok E1.out (by omega);clear h0 hn hg;obtain ⟨b,o,rfl,-,q0,q1,q2,q3,-⟩:=(S.out.below HB.out).at_ hk;clear S;generalize bs[k]'hk=y at *;go_wp2
    exact bodyPost_ret (v:=.tuple #[.agg #[.string ⟨y.nm.toArray⟩,.int .i64 y.gm,.int .i64 y.rd,.slice y.A y.ss.length y.c],.int .i64 0]) (by simp [results,Tryz.results129,go_sem,ko0,ko1,ko2,ko3]) rfl ⟨by rw [E1.out,E2.out],q1a HB.out (Nat.le_succ _) _ _ _ _⟩
 ·have E1:Hid (hasE bs i=chkE bs):=hasE_bad h0;have E2:Hid (getV bs i=zB):=getV_err (by rw [E1.out]; exact h0);generalize chkE bs=x at *;have t0:(x != 0)=true:=bne_iff_ne.2 h0;clear S;go_wp2
  exact bodyPost_ret (v:=.tuple #[.agg #[.string ⟨#[]⟩,.int .i64 0,.int .i64 0,.slice none 0 0],.int .i64 x]) (by simp [results,Tryz.results129,go_sem,ko0,ko1,ko2,ko3]) rfl ⟨by rw [E1.out,E2.out]; rfl,q1a HB.out (Nat.le_succ _) _ _ _ _⟩
def encG (f t:Int) (s:SG):Array Value:=#[.agg #[.int .i64 s.F,.int .i64 s.T,.slice s.A0 s.l0.length s.c0,.slice s.A1 s.l1.length s.c1,.slice s.A2 s.l2.length s.c2],.agg #[.int .i64 (max s.F f),.int .i64 (min s.T t)]]
def inR (f t:Int) (s:SG):Bool:=decide (s.F≤t) && decide (f≤s.T)
theorem filt_snoc {p:SG→Bool} {ss:List SG} {k:Nat} (hk:k < ss.length) (h:p (ss[k]'hk)=true):(ss.take (k+1)).filter p=(ss.take k).filter p ++ [ss[k]'hk]:=by
 rw [← List.take_append_getElem hk,List.filter_append]; simp [h]
theorem filt_skip {p:SG→Bool} {ss:List SG} {k:Nat} (hk:k < ss.length) (h:p (ss[k]'hk)=false):(ss.take (k+1)).filter p=(ss.take k).filter p:=by
 rw [← List.take_append_getElem hk,List.filter_append]; simp [h]
theorem filt_rest {p:SG→Bool} {ss:List SG} (k:Nat):∃ rest,(ss.take k).filter p ++ rest=ss.filter p:=⟨(ss.drop k).filter p,by rw [← List.filter_append,List.take_append_drop]⟩
theorem filt_le (p:SG→Bool) (ss:List SG) (k:Nat):((ss.take k).filter p).length≤k:=by
 have h1:=List.length_filter_le p (ss.take k);rw [List.length_take] at h1;omega
theorem during_in (F:Fence) (n:Nat) (hf:F.fn 130) (hro:F.round=none) (b:BG) (f t:Int) (w:World) :
  CallsIn F n Tryz.prog 130 #[.agg #[.string ⟨b.nm.toArray⟩,.int .i64 b.gm,.int .i64 b.rd,.slice b.A b.ss.length b.c],.int .i64 f,.int .i64 t] w fun e w'=>e=.returned (.func (.func 166) #[] #[.pointer (some ⟨w.heap.size,0,none⟩),.pointer (some ⟨w.heap.size+2,0,none⟩),.pointer (some ⟨w.heap.size+1,0,none⟩)])∧w'=((w.alloc (.cells #[.string ⟨b.nm.toArray⟩,.int .i64 b.gm,.int .i64 b.rd,.slice b.A b.ss.length b.c] 92)).alloc (.cells #[.int .i64 f] 2)).alloc (.cells #[.int .i64 t] 2):=by
 refine callsIn_of_wp Tryz.func130 rfl hf ?_ hro;simp only [Tryz.ntmps130,List.size_toArray,List.length_cons,List.length_nil,Nat.reduceAdd,Nat.reduceSub,Array.replicate_succ,Array.replicate_zero,List.push_toArray,List.append_toArray,List.nil_append,List.cons_append];gi_wp2
 go_ret
 exact ⟨rfl,rfl⟩
theorem during1_in (F:Fence) (n:Nat) (hf:F.fn 166) (hro:F.round=none) (hn:1≤n) (g1 g2 g3:Nat) (b:BG) (f t:Int) (B:Nat) (w:World) (hlen:b.ss.length≤4398046511104)
  (Kp:World→World→Prop) (Inv:World→Prop) (hI0:∀ W,Below w.heap.size w W→Inv W) (hIK:∀ W W',Inv W→Kp W W'→Inv W') (hIA:∀ W o,Inv W→Inv (W.alloc o))
  (hIr:∀ W,Inv W→BlkV W g1 92 #[.string ⟨b.nm.toArray⟩,.int .i64 b.gm,.int .i64 b.rd,.slice b.A b.ss.length b.c]∧W.cell? ⟨g2,0,none⟩=some (.int .i64 t)∧W.cell? ⟨g3,0,none⟩=some (.int .i64 f)∧SlS W B b.A b.ss b.c) :
  SeqStopsK F n Tryz.prog 166 #[.pointer (some ⟨g1,0,none⟩),.pointer (some ⟨g2,0,none⟩),.pointer (some ⟨g3,0,none⟩)] (encG f t) Kp (fun ys=>ys=b.ss.filter (inR f t)) (fun pre=>∃ rest,pre ++ rest=b.ss.filter (inR f t)) b.ss.length w:=fun lp J Jx W hW hAJ _ hY h0=>by
 have hc1:=(hIr W (hI0 W hW)).1.at_ 3 rfl;have HIA:=lh hIA;have HAJ:=lh hAJ;clear hIA hAJ;obtain ⟨bA,hbA⟩:∃ a,b.A=a:=⟨_,rfl⟩;rw [hbA] at hc1 hIr;refine callsIn_of_wp Tryz.func166 rfl hf ?_ hro;simp only [Tryz.ntmps166,List.size_toArray,List.length_cons,List.length_nil,Nat.reduceAdd,Nat.reduceSub,Array.replicate_succ,Array.replicate_zero,List.push_toArray,List.append_toArray,List.nil_append,List.cons_append];gi_wp2
 gi_loopw [10] (fun i wr=>∃ k:Nat,k≤b.ss.length∧i=.int .i64 k∧J ((b.ss.take k).filter (inR f t)) wr∧Inv wr) (fun i _=>b.ss.length - (intOf i).toNat)
 case atStart=>exact ⟨0,Nat.zero_le _,rfl,h0,hI0 W hW⟩
 case round=>
  obtain ⟨k,hk,rfl,hJ,hb⟩:=hrel;obtain ⟨hq1,hq2,hq3,hs2⟩:=hIr wr hb;have HQ1:=lh hq1;have HQ2:=lh hq2;have HQ3:=lh hq3;have HS:=lh hs2;have HJ:=lh hJ;have HI:=lh hb;clear hq1 hq2 hq3 hs2 hJ hb;by_cases hlt:k < b.ss.length
  ·have tk:decide ((k:Int) < (b.ss.length:Int))=true:=decide_eq_true (by omega);obtain ⟨bb,o,rfl,-,p0,p1,p2,p3,p4,hok⟩:=HS.out.at_ hlt;have HIn:Hid (inR f t (b.ss[k]'hlt)=true→(b.ss.take (k+1)).filter (inR f t)=(b.ss.take k).filter (inR f t) ++ [b.ss[k]'hlt]):=fun h=>filt_snoc hlt h;have HSk:Hid (inR f t (b.ss[k]'hlt)=false→(b.ss.take (k+1)).filter (inR f t)=(b.ss.take k).filter (inR f t)):=fun h=>filt_skip hlt h;have HL:=lh (filt_le (inR f t) b.ss k);have hIdef:∀ s:SG,inR f t s=(decide (s.F≤t) && decide (f≤s.T)):=fun s=>rfl;generalize b.ss[k]'hlt=s at *;have HJA:Hid (J ((b.ss.take k).filter (inR f t)) (wr.alloc (.cells #[.int .i64 s.F,.int .i64 s.T,.slice s.A0 s.l0.length s.c0,.slice s.A1 s.l1.length s.c1,.slice s.A2 s.l2.length s.c2] 95))):=HAJ.out _ _ _ none HJ.out (World.grownBy_alloc wr _ none) (fun r e=>by cases e);have HIAx:Hid (Inv (wr.alloc (.cells #[.int .i64 s.F,.int .i64 s.T,.slice s.A0 s.l0.length s.c0,.slice s.A1 s.l1.length s.c1,.slice s.A2 s.l2.length s.c2] 95))):=HIA.out _ _ HI.out;have hy1:W.heap.size≤W.heap.size:=Nat.le_refl _
   cases hin:inR f t s with
   | false=>
    have HN:=lh (HSk.out hin);rw [hIdef] at hin;clear hY HIn HSk hy1;by_cases h1:s.F≤t
    ·have t1:decide (s.F≤t)=true:=decide_eq_true h1;have t2:decide (f≤s.T)=false:=(by rw [t1] at hin; simpa using hin);clear hin hIdef h1;have q2:=HQ2.out; have l2:=lt_of_cell (a:=⟨g2,0,none⟩) q2;have q3:=HQ3.out; have l3:=lt_of_cell (a:=⟨g3,0,none⟩) q3;gi_wp2
     refine ⟨fun _ h=>(by cases h),?_⟩;gi_wp2
     go_roundw
     case rel=>exact ⟨k+1,by omega,by go_num,by rw [HN.out]; exact HJA.out,HIAx.out⟩
     case measure=>simp [intOf]; omega
    ·have t1:decide (s.F≤t)=false:=decide_eq_false h1;clear hin hIdef h1;have q2:=HQ2.out; have l2:=lt_of_cell (a:=⟨g2,0,none⟩) q2;have q3:=HQ3.out; have l3:=lt_of_cell (a:=⟨g3,0,none⟩) q3;gi_wp2
     refine ⟨fun _ h=>(by cases h),?_⟩;gi_wp2
     go_roundw
     case rel=>exact ⟨k+1,by omega,by go_num,by rw [HN.out]; exact HJA.out,HIAx.out⟩
     case measure=>simp [intOf]; omega
   | true=>
    have HN:=lh (HIn.out hin);rw [hIdef] at hin;simp only [Bool.and_eq_true,decide_eq_true_eq] at hin;have t1:decide (s.F≤t)=true:=decide_eq_true hin.1;have t2:decide (f≤s.T)=true:=decide_eq_true hin.2;have hpl:((b.ss.take k).filter (inR f t)).length < b.ss.length:=(by have:=HL.out; omega);obtain ⟨fn,tmps,assign,body,hy,hR⟩:=hY _ s _ HJA.out hpl;clear hY HIn HSk hin hIdef hpl;have q2:=HQ2.out; have l2:=lt_of_cell (a:=⟨g2,0,none⟩) q2;have q3:=HQ3.out; have l3:=lt_of_cell (a:=⟨g3,0,none⟩) q3;dsimp only [encG] at hy hR;gi_wp2
    refine hR.mono ?_;rintro e W3 (⟨rfl,hJ3,hk3⟩ | ⟨rfl,hJx3⟩)
    ·gi_wp2
     go_roundw
     case rel=>exact ⟨k+1,by omega,by go_num,by rw [HN.out]; exact hJ3,hIK _ _ HIAx.out hk3⟩
     case measure=>simp [intOf]; omega
    ·have HX:=lh (filt_rest (p:=inR f t) (ss:=b.ss) (k+1));rw [HN.out] at HX;gi_wp2
     refine bodyPost_ret (results_none rfl _ _ _) rfl ?_;exact ⟨⟨_,rfl⟩,.inr ⟨_,HX.out,hJx3⟩⟩
  ·obtain rfl:k=b.ss.length:=by omega
   have tk:decide ((b.ss.length:Int) < (b.ss.length:Int))=false:=decide_eq_false (by omega);have HE:Hid (J (b.ss.filter (inR f t)) wr):=(by have:=HJ.out; rwa [List.take_length] at this);gi_wp2
   go_end0
   exact ⟨⟨_,rfl⟩,.inl ⟨_,rfl,HE.out⟩⟩
end Go.Proofs.YtgnjhlnolihgcaaGreat
namespace Go.Proofs.YtgnjhlnolihgcaaGreat
open Lib renaming hid → lh
open Go.RowKit Go.Shelf
attribute [local go_sem ↓] Go.wp_at_zero Go.wp_at_succ
attribute [local go_sem] Oper.semAt_some
theorem blk_cells {B g:Nat} {W W':World} {row:Option Nat} {ty:TypeId} {xs:Array Value} (h:BlkV W g ty xs) (hg:W.grownBy W' row) (hr:∀ r,row=some r→B≤r∧∃ o:Obj,W.heap[r]? = some o∧o.isCells=false):BlkV W' g ty xs:=
 (hg.block g h.lt (fun e=>by obtain ⟨-,o,h1,h2⟩:=hr g e.symm; unfold BlkV at h; rw [h] at h1; cases h1; cases h2)).trans h
section
variable {w w':World} {g g' b:Nat} {ty:TypeId} {a0 a1 a2 a3 a4:Value}
theorem BlkV.put5 (h:BlkV w g ty #[a0,a1,a2,a3,a4]) (x y z u v:Value):BlkV (((((w.setCell ⟨g,0,none⟩ x).setCell ⟨g,1,none⟩ y).setCell ⟨g,2,none⟩ z).setCell ⟨g,3,none⟩ u).setCell ⟨g,4,none⟩ v) g ty #[x,y,z,u,v]:=
 ((((h.put 0 x rfl).put 1 y rfl).put 2 z rfl).put 3 u rfl).put 4 v rfl
theorem BlkV.far5 {cs:Array Value} (h:BlkV w g ty cs) (hg:g≠g') (x y z u v:Value):BlkV (((((w.setCell ⟨g',0,none⟩ x).setCell ⟨g',1,none⟩ y).setCell ⟨g',2,none⟩ z).setCell ⟨g',3,none⟩ u).setCell ⟨g',4,none⟩ v) g ty cs:=
 ((((h.far (p:=⟨g',0,none⟩) hg x).far (p:=⟨g',1,none⟩) hg y).far (p:=⟨g',2,none⟩) hg z).far (p:=⟨g',3,none⟩) hg u).far (p:=⟨g',4,none⟩) hg v
theorem below_set5 {a:World} (h:Below b a w) (hg:b≤g) (x y z u v:Value):Below b a (((((w.setCell ⟨g,0,none⟩ x).setCell ⟨g,1,none⟩ y).setCell ⟨g,2,none⟩ z).setCell ⟨g,3,none⟩ u).setCell ⟨g,4,none⟩ v):=
 ((((h.setCell (p:=⟨g,0,none⟩) hg x).setCell (p:=⟨g,1,none⟩) hg y).setCell (p:=⟨g,2,none⟩) hg z).setCell (p:=⟨g,3,none⟩) hg u).setCell (p:=⟨g,4,none⟩) hg v
theorem keeps_set6 (w:World) (g g':Nat) (x y z u v r:Value):KeepsOthers w ((((((w.setCell ⟨g,0,none⟩ x).setCell ⟨g,1,none⟩ y).setCell ⟨g,2,none⟩ z).setCell ⟨g,3,none⟩ u).setCell ⟨g,4,none⟩ v).setCell ⟨g',0,none⟩ r):=
 (((((KeepsOthers.setCell _ _ _).trans (KeepsOthers.setCell _ _ _)).trans (KeepsOthers.setCell _ _ _)).trans (KeepsOthers.setCell _ _ _)).trans (KeepsOthers.setCell _ _ _)).trans (KeepsOthers.setCell _ _ _)
end
theorem BlkV.putD {w:World} {g D:Nat} {ty:TypeId} {xs:Array Value} {o:Obj} (h:BlkV w g ty xs) (hD:w.heap[D]? = some o) (o':Obj) (ho:o.isCells=false):BlkV (w.putObj D o') g ty xs:=
 blk_cells (B:=0) h (grownBy_putObj' w D o') (fun r e=>by cases e; exact ⟨Nat.zero_le _,o,hD,ho⟩)
theorem below_mono' {n:Nat} {a b c:World} (h:Below n a b) (k:Below n b c):Below n a c:=h.trans k
noncomputable def q1n (bs:List BG) (i t:Int):SG × Int:=if hasE bs i=0 then match segOf (getV bs i).ss t with | some s=>(s,0) | none=>(zS,16) else (zS,hasE bs i)
theorem findS_bad {bs:List BG} {i t:Int} (h:hasE bs i≠0):q1n bs i t=(zS,hasE bs i):=if_neg h
theorem findS_none {bs:List BG} {i t:Int} (h:hasE bs i=0) (h2:segOf (getV bs i).ss t=none):q1n bs i t=(zS,16):=by unfold q1n; rw [if_pos h,h2]
theorem findS_some {bs:List BG} {i t:Int} {s:SG} (h:hasE bs i=0) (h2:segOf (getV bs i).ss t=some s):q1n bs i t=(s,0):=by unfold q1n; rw [if_pos h,h2]
theorem inR_inS (t:Int):inR t t=inS t:=by funext s; rfl
theorem filt_none {ss:List SG} {t:Int} (h:[]=ss.filter (inR t t)):segOf ss t=none:=by
 unfold segOf; rw [← List.head?_filter,← inR_inS,← h]; rfl
theorem filt_some {ss:List SG} {t:Int} {s:SG} (h:∃ rest,[s] ++ rest=ss.filter (inR t t)):segOf ss t=some s:=by
 obtain ⟨r,h⟩:=h;unfold segOf; rw [← List.head?_filter,← inR_inS,← h]; rfl
theorem efind_any (bs:List BG) (A:Option Addr) (c B:Nat) (i t:Int) (w:World) (hs:SlB w B A bs c) :
  Calls Tryz.prog 133 #[.agg #[.slice A bs.length c],.int .i64 i,.int .i64 t] w fun e w'=>e=.returned (.tuple #[.agg #[.int .i64 (q1n bs i t).1.F,.int .i64 (q1n bs i t).1.T,.slice (q1n bs i t).1.A0 (q1n bs i t).1.l0.length (q1n bs i t).1.c0,.slice (q1n bs i t).1.A1 (q1n bs i t).1.l1.length (q1n bs i t).1.c1,.slice (q1n bs i t).1.A2 (q1n bs i t).1.l2.length (q1n bs i t).1.c2],.int .i64 (q1n bs i t).2])∧Below w.heap.size w w':=by
 have S:=lh hs;clear hs;by_cases h0:hasE bs i=0
 ·have OB:=lh (OkB.get S.out i);have F1:Hid (∀ s,segOf (getV bs i).ss t=some s→q1n bs i t=(s,0)):=fun s h=>findS_some h0 h;have F2:Hid (segOf (getV bs i).ss t=none→q1n bs i t=(zS,16)):=fun h=>findS_none h0 h;refine (callsIn_wide (n:=5)).1 ?_;refine callsIn_of_wp_marks Tryz.func133 rfl trivial ?_ rfl;refine wpIn_wide.2 ?_;simp only [Tryz.ntmps133,List.size_toArray,List.length_cons,List.length_nil,Nat.reduceAdd,Nat.reduceSub,Array.replicate_succ,Array.replicate_zero,List.push_toArray,List.append_toArray,List.nil_append,List.cons_append];go_wp2_with (fail)
  generalize hwz:((w.alloc (.cells #[.slice A bs.length c] 24)).alloc (.cells #[.int .i64 0,.int .i64 0,.slice none 0 0,.slice none 0 0,.slice none 0 0] 95)).alloc (.cells #[.int .i64 0] 31)=wz at *;have KE:Hid (BlkV wz w.heap.size 24 #[.slice A bs.length c]):=(by rw [← hwz]; exact ((BlkV.fresh rfl _ _).alloc _).alloc _);have KS:Hid (BlkV wz (w.heap.size+1) 95 #[.int .i64 0,.int .i64 0,.slice none 0 0,.slice none 0 0,.slice none 0 0]):=(by rw [← hwz]; exact (BlkV.fresh (by simp) _ _).alloc _);have KR:Hid (BlkV wz (w.heap.size+1+1) 31 #[.int .i64 0]):=(by rw [← hwz]; exact BlkV.fresh (by simp) _ _);have HB:Hid (Below w.heap.size w wz):=(by rw [← hwz]; exact q0a (q0a (blw1 _ _) (blw1 _ _)) (blw1 _ _));clear hwz;refine (eget_any bs A c B i wz (S.out.below HB.out)).mono ?_;rintro e w1 ⟨rfl,hb⟩;replace KE:=lh (KE.out.keep hb);replace KS:=lh (KS.out.keep hb);replace KR:=lh (KR.out.keep hb);replace HB:=lh (q0a HB.out hb);clear hb;rw [h0];generalize getV bs i=y at *;clear h0;go_wp2_with fail
  generalize hwx:w1.alloc (.cells #[.string ⟨y.nm.toArray⟩,.int .i64 y.gm,.int .i64 y.rd,.slice y.A y.ss.length y.c] 92)=wx at *;replace KS:Hid (BlkV wx (w.heap.size+1) 95 #[.int .i64 0,.int .i64 0,.slice none 0 0,.slice none 0 0,.slice none 0 0]):=(by rw [← hwx]; exact KS.out.alloc _);replace KR:Hid (BlkV wx (w.heap.size+1+1) 31 #[.int .i64 0]):=(by rw [← hwx]; exact KR.out.alloc _);replace HB:Hid (Below w.heap.size w wx):=(by rw [← hwx]; exact q0a HB.out (blw1 _ _));clear hwx;refine (callsIn_wide.1 (during_in Fence.wide 5 trivial rfl y t t wx)).mono ?_;rintro e w' ⟨rfl,rfl⟩;go_wp2_with fail
  have Q1:Hid (BlkV (((wx.alloc (.cells #[.string ⟨y.nm.toArray⟩,.int .i64 y.gm,.int .i64 y.rd,.slice y.A y.ss.length y.c] 92)).alloc (.cells #[.int .i64 t] 2)).alloc (.cells #[.int .i64 t] 2)) wx.heap.size 92 #[.string ⟨y.nm.toArray⟩,.int .i64 y.gm,.int .i64 y.rd,.slice y.A y.ss.length y.c]):=((BlkV.fresh rfl _ _).alloc _).alloc _;have Q2:Hid ((((wx.alloc (.cells #[.string ⟨y.nm.toArray⟩,.int .i64 y.gm,.int .i64 y.rd,.slice y.A y.ss.length y.c] 92)).alloc (.cells #[.int .i64 t] 2)).alloc (.cells #[.int .i64 t] 2)).cell? ⟨wx.heap.size+2,0,none⟩=some (.int .i64 t)):=(BlkV.fresh (by simp) _ _).at_ 0 rfl;have Q3:Hid ((((wx.alloc (.cells #[.string ⟨y.nm.toArray⟩,.int .i64 y.gm,.int .i64 y.rd,.slice y.A y.ss.length y.c] 92)).alloc (.cells #[.int .i64 t] 2)).alloc (.cells #[.int .i64 t] 2)).cell? ⟨wx.heap.size+1,0,none⟩=some (.int .i64 t)):=((BlkV.fresh (by simp) _ _).alloc _).at_ 0 rfl;have HB0:Hid (Below w.heap.size w (((wx.alloc (.cells #[.string ⟨y.nm.toArray⟩,.int .i64 y.gm,.int .i64 y.rd,.slice y.A y.ss.length y.c] 92)).alloc (.cells #[.int .i64 t] 2)).alloc (.cells #[.int .i64 t] 2))):=q0a (q0a (q0a HB.out (blw1 _ _)) (blw1 _ _)) (blw1 _ _);have SS:Hid (SlS (((wx.alloc (.cells #[.string ⟨y.nm.toArray⟩,.int .i64 y.gm,.int .i64 y.rd,.slice y.A y.ss.length y.c] 92)).alloc (.cells #[.int .i64 t] 2)).alloc (.cells #[.int .i64 t] 2)) B y.A y.ss y.c):=(OB.out.below HB0.out).sl;have KS0:Hid (BlkV (((wx.alloc (.cells #[.string ⟨y.nm.toArray⟩,.int .i64 y.gm,.int .i64 y.rd,.slice y.A y.ss.length y.c] 92)).alloc (.cells #[.int .i64 t] 2)).alloc (.cells #[.int .i64 t] 2)) (w.heap.size+1) 95 #[.int .i64 0,.int .i64 0,.slice none 0 0,.slice none 0 0,.slice none 0 0]):=((KS.out.alloc _).alloc _).alloc _;have KR0:Hid (BlkV (((wx.alloc (.cells #[.string ⟨y.nm.toArray⟩,.int .i64 y.gm,.int .i64 y.rd,.slice y.A y.ss.length y.c] 92)).alloc (.cells #[.int .i64 t] 2)).alloc (.cells #[.int .i64 t] 2)) (w.heap.size+1+1) 31 #[.int .i64 0]):=((KR.out.alloc _).alloc _).alloc _;generalize hW0:((wx.alloc (.cells #[.string ⟨y.nm.toArray⟩,.int .i64 y.gm,.int .i64 y.rd,.slice y.A y.ss.length y.c] 92)).alloc (.cells #[.int .i64 t] 2)).alloc (.cells #[.int .i64 t] 2)=W0 at *;clear hW0;refine (wpIn_wide (n:=5)).1 ?_
  refine wpIn_rangeFunc_ownH rfl (by omega) (gf:=166) (lb:=#[.pointer (some ⟨wx.heap.size,0,none⟩),.pointer (some ⟨wx.heap.size+2,0,none⟩),.pointer (some ⟨wx.heap.size+1,0,none⟩)]) rfl trivial (enters_of Tryz.func166 (by kernel_rfl) rfl)
   (during1_in Fence.wide 4 trivial rfl (by omega) wx.heap.size (wx.heap.size+2) (wx.heap.size+1) y t t B W0 SS.out.len (Below W0.heap.size) (Below W0.heap.size W0) (fun _ h=>h) (fun _ _ h k=>h.trans k) (fun _ o h=>q0a h (blw1 _ o)) (fun _ h=>⟨Q1.out.keep h,q0b h Q2.out,q0b h Q3.out,SS.out.below h⟩)) belowK_t (belowK_b (Nat.le_refl _)) (Below.refl _ _) (fun _=>rfl)
   (fun pre W=>pre=[]∧Below W0.heap.size W0 W)
   (fun cd pre W=>(cd=.ret∧∃ s,pre=[s]∧BlkV W (w.heap.size+1) 95 #[.int .i64 s.F,.int .i64 s.T,.slice s.A0 s.l0.length s.c0,.slice s.A1 s.l1.length s.c1,.slice s.A2 s.l2.length s.c2]∧BlkV W (w.heap.size+1+1) 31 #[.int .i64 0])∧Below w.heap.size w W)
   (fun pre W W' row h hg hr=>⟨h.1,ownFrom_below (Nat.le_refl _) (Nat.le_refl _) pre W W' row h.2 hg hr⟩)
   (fun cd=>OwnFrom.and (fun pre W W' row h hg hr=>by obtain ⟨h1,s,h2,h3,h4⟩:=h; exact ⟨h1,s,h2,own_block h3 (by have:=KS0.out.lt; omega) hg hr,own_block h4 (by have:=KR0.out.lt; omega) hg hr⟩) (ownFrom_below (Nat.le_refl _) (by have:=HB0.out.size; omega)))
   ⟨rfl,Below.refl _ _⟩
   (fun s a' W=>∃ g,a'={ tmps:=#[.agg #[.slice A bs.length c],.int .i64 i,.int .i64 t,.pointer (some ⟨w.heap.size,0,none⟩),undef,undef,.pointer (some ⟨w.heap.size+1,0,none⟩),.pointer (some ⟨w.heap.size+1+1,0,none⟩),.pointer (some ⟨w1.heap.size,0,none⟩),.int .i64 0,.pointer (some ⟨g,0,none⟩),.tuple #[.agg #[.string ⟨y.nm.toArray⟩,.int .i64 y.gm,.int .i64 y.rd,.slice y.A y.ss.length y.c],.int .i64 0],.agg #[.slice A bs.length c],.int .i64 i,.tuple #[.agg #[.string ⟨y.nm.toArray⟩,.int .i64 y.gm,.int .i64 y.rd,.slice y.A y.ss.length y.c],.int .i64 0],.agg #[.string ⟨y.nm.toArray⟩,.int .i64 y.gm,.int .i64 y.rd,.slice y.A y.ss.length y.c],.int .i64 0,.int .i64 0,.bool false,undef,undef,.agg #[.string ⟨y.nm.toArray⟩,.int .i64 y.gm,.int .i64 y.rd,.slice y.A y.ss.length y.c],.int .i64 t,.int .i64 t,.func (.func 166) #[] #[.pointer (some ⟨wx.heap.size,0,none⟩),.pointer (some ⟨wx.heap.size+2,0,none⟩),.pointer (some ⟨wx.heap.size+1,0,none⟩)],.agg #[.int .i64 s.F,.int .i64 s.T,.slice s.A0 s.l0.length s.c0,.slice s.A1 s.l1.length s.c1,.slice s.A2 s.l2.length s.c2],.agg #[.int .i64 (max s.F t),.int .i64 (min s.T t)],undef,undef],defers:=[] } ∧ BlkV W g 95 #[.int .i64 s.F,.int .i64 s.T,.slice s.A0 s.l0.length s.c0,.slice s.A1 s.l1.length s.c1,.slice s.A2 s.l2.length s.c2]∧W0.heap.size≤g) (fun s a' _ W W' row h hg hr=>by obtain ⟨g,e,k,l⟩:=h; exact ⟨g,e,blk_cells k hg hr,l⟩) ?assign ?body ?done ?stop
  case assign=>
   rintro l pre s W K ⟨hp,hB⟩ hK;simp only [encG];gi_wp2
   exact hK _ _ ((KeepsOthers.alloc W _).from _) (blw1 W _ |>.mono hB.size) ⟨hp,q0a hB (blw1 _ _)⟩ ⟨W.heap.size,rfl,BlkV.fresh rfl _ _,hB.size⟩
  case body=>
   rintro l pre s a' W _ _ ⟨rfl,hB⟩ ⟨g,rfl,kg,hg⟩ _;have KG:=lh kg;clear kg;have kg0:=KG.out.at_ 0 rfl;have kg1:=KG.out.at_ 1 rfl;have kg2:=KG.out.at_ 2 rfl;have kg3:=KG.out.at_ 3 rfl;have kg4:=KG.out.at_ 4 rfl;have hlg:=KG.out.lt;have KSW:=lh (KS0.out.keep hB);have KRW:=lh (KR0.out.keep hB);have HBW:=lh (q0a HB0.out hB);clear hB;have ks0:=KSW.out.at_ 0 rfl;have ks1:=KSW.out.at_ 1 rfl;have ks2:=KSW.out.at_ 2 rfl;have ks3:=KSW.out.at_ 3 rfl;have ks4:=KSW.out.at_ 4 rfl;have kr0:=KRW.out.at_ 0 rfl;have fs0:=KSW.out.frozen 0;have fs1:=KSW.out.frozen 1;have fs2:=KSW.out.frozen 2;have fs3:=KSW.out.frozen 3;have fs4:=KSW.out.frozen 4;have fr0:=KRW.out.frozen 0;have hls:=KSW.out.lt;have hlr:=KRW.out.lt;gi_wp2
   exact ⟨(keeps_set6 _ _ _ _ _ _ _ _ _).from _,⟨rfl,s,rfl,(BlkV.put5 KSW.out _ _ _ _ _).far (by simp) _,BlkV.put (KRW.out.far5 (by simp) _ _ _ _ _) 0 _ rfl⟩,(below_set5 HBW.out (by omega) _ _ _ _ _).setCell (p:=⟨w.heap.size+1+1,0,none⟩) (by simp <;> omega) _⟩
  case done=>
   rintro D ys W hD hys ⟨rfl,hB⟩ hDf;have E:=lh (F2.out (filt_none hys));have KSW:=lh (KS0.out.keep hB);have KRW:=lh (KR0.out.keep hB);have HBW:=lh (q0a HB0.out hB);clear hB;have ks0:=KSW.out.at_ 0 rfl;have ks1:=KSW.out.at_ 1 rfl;have ks2:=KSW.out.at_ 2 rfl;have ks3:=KSW.out.at_ 3 rfl;have ks4:=KSW.out.at_ 4 rfl;have kr0:=KRW.out.at_ 0 rfl;have fs0:=KSW.out.frozen 0;have fs1:=KSW.out.frozen 1;have fs2:=KSW.out.frozen 2;have fs3:=KSW.out.frozen 3;have fs4:=KSW.out.frozen 4;have fr0:=KRW.out.frozen 0;have hls:=KSW.out.lt;have hlr:=KRW.out.lt;gi_wp2
   show Code.wp _ _ _ _ _
   go_wp2
   refine ⟨by simp,.inl ⟨_,_,rfl,run_takeDeferred (((keeps_set6 _ _ _ _ _ _ _ _ _).same D _ hDf rfl)),?_⟩⟩;have HD:Hid (_=_):=(keeps_set6 W (w.heap.size+1) (w.heap.size+1+1) (.int .i64 0) (.int .i64 0) (.slice none 0 0) (.slice none 0 0) (.slice none 0 0) (.int .i64 16)).same D _ hDf rfl;have hp:=belowK_b (w:=w) (Nat.le_refl _) _ D _ (.deferred none) (by have:=HB0.out.size; omega) HD.out rfl rfl;have ksF:=BlkV.putD ((KSW.out.put5 (.int .i64 0) (.int .i64 0) (.slice none 0 0) (.slice none 0 0) (.slice none 0 0)).far (p:=⟨w.heap.size+1+1,0,none⟩) (by simp) (.int .i64 16)) HD.out (.deferred none) rfl;have krF:=BlkV.putD ((KRW.out.far5 (g':=w.heap.size+1) (by simp) (.int .i64 0) (.int .i64 0) (.slice none 0 0) (.slice none 0 0) (.slice none 0 0)).put 0 (.int .i64 16) rfl) HD.out (.deferred none) rfl;have kf0:=ksF.at_ 0 rfl;have kf1:=ksF.at_ 1 rfl;have kf2:=ksF.at_ 2 rfl;have kf3:=ksF.at_ 3 rfl;have kf4:=ksF.at_ 4 rfl;have kf5:=krF.at_ 0 rfl;have hbF:=below_mono' ((below_set5 HBW.out (show w.heap.size≤w.heap.size+1 by omega) (.int .i64 0) (.int .i64 0) (.slice none 0 0) (.slice none 0 0) (.slice none 0 0)).setCell (p:=⟨w.heap.size+1+1,0,none⟩) (by simp <;> omega) (.int .i64 16)) hp;clear hp ksF krF;refine ⟨.tuple #[.agg #[.int .i64 0,.int .i64 0,.slice none 0 0,.slice none 0 0,.slice none 0 0],.int .i64 16],?_,by rw [E.out] <;> rfl,hbF⟩;simp [results,Tryz.f133,go_sem,kf0,kf1,kf2,kf3,kf4,kf5]
  case stop=>
   rintro D cd pre W hD hpre ⟨⟨rfl,s,rfl,k1,k2⟩,hB⟩ hDf;have E:=lh (F1.out s (filt_some hpre));have KSW:=lh k1;have KRW:=lh k2;have HBW:=lh hB;clear hB k1 k2 hpre;have ks0:=KSW.out.at_ 0 rfl;have ks1:=KSW.out.at_ 1 rfl;have ks2:=KSW.out.at_ 2 rfl;have ks3:=KSW.out.at_ 3 rfl;have ks4:=KSW.out.at_ 4 rfl;have kr0:=KRW.out.at_ 0 rfl;have fs0:=KSW.out.frozen 0;have fs1:=KSW.out.frozen 1;have fs2:=KSW.out.frozen 2;have fs3:=KSW.out.frozen 3;have fs4:=KSW.out.frozen 4;have fr0:=KRW.out.frozen 0;have hls:=KSW.out.lt;have hlr:=KRW.out.lt;gi_wp2
   refine ⟨by simp,.inl ⟨_,_,rfl,run_takeDeferred hDf,?_⟩⟩;have HD:Hid (_=_):=hDf;have hp:=belowK_b (w:=w) (Nat.le_refl _) _ D _ (.deferred none) (by have:=HB0.out.size; omega) HD.out rfl rfl;have ksF:=BlkV.putD (KSW.out) HD.out (.deferred none) rfl;have krF:=BlkV.putD (KRW.out) HD.out (.deferred none) rfl;have kf0:=ksF.at_ 0 rfl;have kf1:=ksF.at_ 1 rfl;have kf2:=ksF.at_ 2 rfl;have kf3:=ksF.at_ 3 rfl;have kf4:=ksF.at_ 4 rfl;have kf5:=krF.at_ 0 rfl;have hbF:=below_mono' (HBW.out) hp;clear hp ksF krF;refine ⟨.tuple #[.agg #[.int .i64 s.F,.int .i64 s.T,.slice s.A0 s.l0.length s.c0,.slice s.A1 s.l1.length s.c1,.slice s.A2 s.l2.length s.c2],.int .i64 0],?_,by rw [E.out] <;> rfl,hbF⟩;simp [results,Tryz.f133,go_sem,kf0,kf1,kf2,kf3,kf4,kf5]
 ·have E:=lh (findS_bad (t:=t) h0);have E2:=lh (getV_err h0);go_enter Tryz.func133,Tryz.ntmps133
  go_wp2_with (fail)
  generalize hwz:((w.alloc (.cells #[.slice A bs.length c] 24)).alloc (.cells #[.int .i64 0,.int .i64 0,.slice none 0 0,.slice none 0 0,.slice none 0 0] 95)).alloc (.cells #[.int .i64 0] 31)=wz at *;have KE:Hid (BlkV wz w.heap.size 24 #[.slice A bs.length c]):=(by rw [← hwz]; exact ((BlkV.fresh rfl _ _).alloc _).alloc _);have KS:Hid (BlkV wz (w.heap.size+1) 95 #[.int .i64 0,.int .i64 0,.slice none 0 0,.slice none 0 0,.slice none 0 0]):=(by rw [← hwz]; exact (BlkV.fresh (by simp) _ _).alloc _);have KR:Hid (BlkV wz (w.heap.size+1+1) 31 #[.int .i64 0]):=(by rw [← hwz]; exact BlkV.fresh (by simp) _ _);have HB:Hid (Below w.heap.size w wz):=(by rw [← hwz]; exact q0a (q0a (blw1 _ _) (blw1 _ _)) (blw1 _ _));clear hwz;refine (eget_any bs A c B i wz (S.out.below HB.out)).mono ?_;rintro e w1 ⟨rfl,hb⟩;replace KE:=lh (KE.out.keep hb);replace KS:=lh (KS.out.keep hb);replace KR:=lh (KR.out.keep hb);replace HB:=lh (q0a HB.out hb);clear hb;rw [E2.out];clear E2 S;generalize hasE bs i=x at *;have t0:(x != 0)=true:=bne_iff_ne.2 h0;clear h0;go_upto_region 2 with fail
  generalize hwx:w1.alloc (.cells #[.string ⟨zB.nm.toArray⟩,.int .i64 zB.gm,.int .i64 zB.rd,.slice zB.A zB.ss.length zB.c] 92)=wx at *;replace KS:Hid (BlkV wx (w.heap.size+1) 95 #[.int .i64 0,.int .i64 0,.slice none 0 0,.slice none 0 0,.slice none 0 0]):=(by rw [← hwx]; exact KS.out.alloc _);replace KR:Hid (BlkV wx (w.heap.size+1+1) 31 #[.int .i64 0]):=(by rw [← hwx]; exact KR.out.alloc _);replace HB:Hid (Below w.heap.size w wx):=(by rw [← hwx]; exact q0a HB.out (blw1 _ _));clear hwx;have ks0:=KS.out.at_ 0 rfl;have ks1:=KS.out.at_ 1 rfl;have ks2:=KS.out.at_ 2 rfl;have ks3:=KS.out.at_ 3 rfl;have ks4:=KS.out.at_ 4 rfl;have kr0:=KR.out.at_ 0 rfl;have fs0:=KS.out.frozen 0;have fs1:=KS.out.frozen 1;have fs2:=KS.out.frozen 2;have fs3:=KS.out.frozen 3;have fs4:=KS.out.frozen 4;have fr0:=KR.out.frozen 0;have hls:=KS.out.lt;have hlr:=KR.out.lt;go_wp2
  exact bodyPost_ret (v:=.tuple #[.agg #[.int .i64 0,.int .i64 0,.slice none 0 0,.slice none 0 0,.slice none 0 0],.int .i64 x]) (by simp [results,Tryz.results133,go_sem,ks0,ks1,ks2,ks3,ks4,kr0]) rfl ⟨by rw [E.out] <;> rfl,(below_set5 HB.out (by omega) _ _ _ _ _).setCell (p:=⟨w.heap.size+1+1,0,none⟩) (by simp <;> omega) _⟩
end Go.Proofs.YtgnjhlnolihgcaaGreat
import Derived.Test.YtghallnooijfhaaGreatMg13
import Derived.Test.YtghallnooijfhaaGreatMg15
import Derived.Test.YtghallnooijfhaaGreatEphV
set_option maxHeartbeats 8000000
set_option maxRecDepth 100000
namespace Go.Proofs.YtghallnooijfhaaGreat
open Go.RowKit Go.Shelf
attribute [local go_sem ↓] Go.wp_at_zero Go.wp_at_succ
attribute [local go_sem] Oper.semAt_some
def zB:BG:=⟨[],0,0,none,[],0⟩
noncomputable def getV (bs:List BG) (i:Int):BG:=if hasE bs i=0 then (getB bs i).getD zB else zB
theorem getV_err {bs:List BG} {i:Int} (h:hasE bs i≠0):getV bs i=zB:=if_neg h
theorem getV_ok {bs:List BG} {i:Int} (h:hasE bs i=0) (h2:0≤i∧i < bs.length):getV bs i=bs[i.toNat]'(by omega):=by
 unfold getV; rw [if_pos h,getB_some h2]; rfl
theorem hasE_bad {bs:List BG} {i:Int} (h:chkE bs≠0):hasE bs i=chkE bs:=if_neg h
theorem hasE_in {bs:List BG} {i:Int} (h:chkE bs=0) (h2:0≤i∧i < bs.length):hasE bs i=0:=by unfold hasE; rw [if_pos h,if_pos h2]
theorem hasE_out {bs:List BG} {i:Int} (h:chkE bs=0) (h2:¬ (0≤i∧i < bs.length)):hasE bs i=6:=by unfold hasE; rw [if_pos h,if_neg h2]
theorem hasE_zero {bs:List BG} {i:Int} (h:hasE bs i=0):chkE bs=0∧0≤i∧i < bs.length:=by
 unfold hasE at h;split at h
 ·split at h
  ·rename_i h1 h2; exact ⟨h1,h2⟩
  ·omega
 ·omega
theorem OkB.z (w:World) (B:Nat):OkB w B zB:=⟨⟨RdV.nil _ _ _,(fun s h=>by cases h),Nat.zero_le _,Nat.zero_le _⟩,by simp [zB],by simp [zB],by simp [zB],by simp [zB],by simp [zB]⟩
theorem OkB.get {w:World} {B c:Nat} {A:Option Addr} {bs:List BG} (h:SlB w B A bs c) (i:Int):OkB w B (getV bs i):=by
 unfold getV;split
 ·cases hb:getB bs i with
  | none=>exact OkB.z w B
  | some b=>exact h.all b (getB_mem hb)
 ·exact OkB.z w B
theorem eget_any (bs:List BG) (A:Option Addr) (c B:Nat) (i:Int) (w:World) (hs:SlB w B A bs c) :
  Calls Tryz.prog 43 #[.agg #[.slice A bs.length c],.int .i64 i] w fun e w'=>e=.returned (.tuple #[.agg #[.string ⟨(getV bs i).nm.toArray⟩,.int .i64 (getV bs i).gm,.int .i64 (getV bs i).rd,.slice (getV bs i).A (getV bs i).ss.length (getV bs i).c],.int .i64 (hasE bs i)])∧Below w.heap.size w w':=by
 have hlen:=hs.len;have S:=Lib.hid hs;clear hs;go_enter Tryz.func43,Tryz.ntmps43
 go_wp2_with (fail)
 generalize hwz:(w.alloc (.cells #[.slice A bs.length c] 24)).alloc (.cells #[.string ⟨#[]⟩,.int .i64 0,.int .i64 0,.slice none 0 0] 40)=wz at *;have KE:Hid (BlkV wz w.heap.size 24 #[.slice A bs.length c]):=(by rw [← hwz]; exact (BlkV.fresh rfl _ _).alloc _);have KO:Hid (BlkV wz (w.heap.size+1) 40 #[.string ⟨#[]⟩,.int .i64 0,.int .i64 0,.slice none 0 0]):=(by rw [← hwz]; exact BlkV.fresh (by simp) _ _);have HB:Hid (Below w.heap.size w wz):=(by rw [← hwz]; exact q0a (blw1 _ _) (blw1 _ _));clear hwz;refine (echeck_any bs A c B wz (S.out.below HB.out)).mono ?_;rintro e w1 ⟨rfl,hb⟩;replace KE:=Lib.hid (KE.out.keep hb);replace KO:=Lib.hid (KO.out.keep hb);replace HB:=Lib.hid (q0a HB.out hb);clear hb;have ke0:=KE.out.at_ 0 rfl;have ko0:=KO.out.at_ 0 rfl;have ko1:=KO.out.at_ 1 rfl;have ko2:=KO.out.at_ 2 rfl;have ko3:=KO.out.at_ 3 rfl;have fo0:=KO.out.frozen 0;have fo1:=KO.out.frozen 1;have fo2:=KO.out.frozen 2;have fo3:=KO.out.frozen 3;have hlo:=KO.out.lt;by_cases h0:chkE bs=0
 ·rw [h0];by_cases hn:i < 0
  ·have t1:decide (i < 0)=true:=decide_eq_true hn;have E1:Hid (hasE bs i=6):=hasE_out h0 (by omega);have E2:Hid (getV bs i=zB):=getV_err (by rw [E1.out]; decide);clear hn h0;go_wp2
   exact bodyPost_ret (v:=.tuple #[.agg #[.string ⟨#[]⟩,.int .i64 0,.int .i64 0,.slice none 0 0],.int .i64 6]) (by simp [results,Tryz.results43,go_sem,ko0,ko1,ko2,ko3]) rfl ⟨by rw [E1.out,E2.out]; rfl,q0h HB.out (Nat.le_succ _) _ _ _ _⟩
  ·have t1:decide (i < 0)=false:=decide_eq_false hn;by_cases hg:(bs.length:Int)≤i
   ·have t2:decide ((bs.length:Int)≤i)=true:=decide_eq_true hg;have E1:Hid (hasE bs i=6):=hasE_out h0 (by omega);have E2:Hid (getV bs i=zB):=getV_err (by rw [E1.out]; decide);clear hn h0 hg;go_wp2
    exact bodyPost_ret (v:=.tuple #[.agg #[.string ⟨#[]⟩,.int .i64 0,.int .i64 0,.slice none 0 0],.int .i64 6]) (by simp [results,Tryz.results43,go_sem,ko0,ko1,ko2,ko3]) rfl ⟨by rw [E1.out,E2.out]; rfl,q0h HB.out (Nat.le_succ _) _ _ _ _⟩
   ·have t2:decide ((bs.length:Int)≤i)=false:=decide_eq_false hg;obtain ⟨k,rfl⟩:∃ k:Nat,i=k:=⟨i.toNat,by omega⟩;have hk:k < bs.length:=(by omega);have E1:Hid (hasE bs k=0):=hasE_in h0 (by omega);have E2:Hid (getV bs k=bs[k]'hk):=getV_ok E1.out (by omega);clear h0 hn hg;obtain ⟨b,o,rfl,-,q0,q1,q2,q3,-⟩:=(S.out.below HB.out).at_ hk;clear S;generalize bs[k]'hk=y at *;go_wp2
    exact bodyPost_ret (v:=.tuple #[.agg #[.string ⟨y.nm.toArray⟩,.int .i64 y.gm,.int .i64 y.rd,.slice y.A y.ss.length y.c],.int .i64 0]) (by simp [results,Tryz.results43,go_sem,ko0,ko1,ko2,ko3]) rfl ⟨by rw [E1.out,E2.out],q0h HB.out (Nat.le_succ _) _ _ _ _⟩
 ·have E1:Hid (hasE bs i=chkE bs):=hasE_bad h0;have E2:Hid (getV bs i=zB):=getV_err (by rw [E1.out]; exact h0);generalize chkE bs=x at *;have t0:(x != 0)=true:=bne_iff_ne.2 h0;clear S;go_wp2
  exact bodyPost_ret (v:=.tuple #[.agg #[.string ⟨#[]⟩,.int .i64 0,.int .i64 0,.slice none 0 0],.int .i64 x]) (by simp [results,Tryz.results43,go_sem,ko0,ko1,ko2,ko3]) rfl ⟨by rw [E1.out,E2.out]; rfl,q0h HB.out (Nat.le_succ _) _ _ _ _⟩
def encG (f t:Int) (s:SG):Array Value:=#[.agg #[.int .i64 s.F,.int .i64 s.T,.slice s.A0 s.l0.length s.c0,.slice s.A1 s.l1.length s.c1,.slice s.A2 s.l2.length s.c2],.agg #[.int .i64 (max s.F f),.int .i64 (min s.T t)]]
def inR (f t:Int) (s:SG):Bool:=decide (s.F≤t) && decide (f≤s.T)
theorem filt_snoc {p:SG→Bool} {ss:List SG} {k:Nat} (hk:k < ss.length) (h:p (ss[k]'hk)=true):(ss.take (k+1)).filter p=(ss.take k).filter p ++ [ss[k]'hk]:=by
 rw [← List.take_append_getElem hk,List.filter_append]; simp [h]
theorem filt_skip {p:SG→Bool} {ss:List SG} {k:Nat} (hk:k < ss.length) (h:p (ss[k]'hk)=false):(ss.take (k+1)).filter p=(ss.take k).filter p:=by
 rw [← List.take_append_getElem hk,List.filter_append]; simp [h]
theorem filt_rest {p:SG→Bool} {ss:List SG} (k:Nat):∃ rest,(ss.take k).filter p ++ rest=ss.filter p:=⟨(ss.drop k).filter p,by rw [← List.filter_append,List.take_append_drop]⟩
theorem filt_le (p:SG→Bool) (ss:List SG) (k:Nat):((ss.take k).filter p).length≤k:=by
 have h1:=List.length_filter_le p (ss.take k);rw [List.length_take] at h1;omega
theorem during_in (F:Fence) (n:Nat) (hf:F.fn 44) (hro:F.round=none) (b:BG) (f t:Int) (w:World) :
  CallsIn F n Tryz.prog 44 #[.agg #[.string ⟨b.nm.toArray⟩,.int .i64 b.gm,.int .i64 b.rd,.slice b.A b.ss.length b.c],.int .i64 f,.int .i64 t] w fun e w'=>e=.returned (.func (.func 97) #[] #[.pointer (some ⟨w.heap.size,0,none⟩),.pointer (some ⟨w.heap.size+2,0,none⟩),.pointer (some ⟨w.heap.size+1,0,none⟩)])∧w'=((w.alloc (.cells #[.string ⟨b.nm.toArray⟩,.int .i64 b.gm,.int .i64 b.rd,.slice b.A b.ss.length b.c] 40)).alloc (.cells #[.int .i64 f] 2)).alloc (.cells #[.int .i64 t] 2):=by
 refine callsIn_of_wp Tryz.func44 rfl hf ?_ hro;simp only [Tryz.ntmps44,List.size_toArray,List.length_cons,List.length_nil,Nat.reduceAdd,Nat.reduceSub,Array.replicate_succ,Array.replicate_zero,List.push_toArray,List.append_toArray,List.nil_append,List.cons_append];gi_wp2
 go_ret
 exact ⟨rfl,rfl⟩
end Go.Proofs.YtghallnooijfhaaGreat
namespace Go.Proofs.YtghallnooijfhaaGreat
open Go.RowKit Go.Shelf
attribute [local go_sem ↓] Go.wp_at_zero Go.wp_at_succ
attribute [local go_sem] Oper.semAt_some
theorem blk_cells {B g:Nat} {W W':World} {row:Option Nat} {ty:TypeId} {xs:Array Value} (h:BlkV W g ty xs) (hg:W.grownBy W' row) (hr:∀ r,row=some r→B≤r∧∃ o:Obj,W.heap[r]? = some o∧o.isCells=false):BlkV W' g ty xs:=
 (hg.block g h.lt (fun e=>by obtain ⟨-,o,h1,h2⟩:=hr g e.symm; unfold BlkV at h; rw [h] at h1; cases h1; cases h2)).trans h
section
variable {w w':World} {g g' b:Nat} {ty:TypeId} {a0 a1 a2 a3 a4:Value}
theorem below_set5 {a:World} (h:Below b a w) (hg:b≤g) (x y z u v:Value):Below b a (((((w.setCell ⟨g,0,none⟩ x).setCell ⟨g,1,none⟩ y).setCell ⟨g,2,none⟩ z).setCell ⟨g,3,none⟩ u).setCell ⟨g,4,none⟩ v):=
 ((((h.setCell (p:=⟨g,0,none⟩) hg x).setCell (p:=⟨g,1,none⟩) hg y).setCell (p:=⟨g,2,none⟩) hg z).setCell (p:=⟨g,3,none⟩) hg u).setCell (p:=⟨g,4,none⟩) hg v
end
theorem BlkV.putD {w:World} {g D:Nat} {ty:TypeId} {xs:Array Value} {o:Obj} (h:BlkV w g ty xs) (hD:w.heap[D]? = some o) (o':Obj) (ho:o.isCells=false):BlkV (w.putObj D o') g ty xs:=
 blk_cells (B:=0) h (grownBy_putObj' w D o') (fun r e=>by cases e; exact ⟨Nat.zero_le _,o,hD,ho⟩)
theorem below_mono' {n:Nat} {a b c:World} (h:Below n a b) (k:Below n b c):Below n a c:=h.trans k
end Go.Proofs.YtghallnooijfhaaGreat
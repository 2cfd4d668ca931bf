import Derived.Test.YtgnjhlnolihgcaaGreatCfl
import Derived.Test.YtgnjhlnolihgcaaGreatMg1
import Derived.Test.YtgnjhlnolihgcaaGreatCal11
namespace Go.Proofs.YtgnjhlnolihgcaaGreat
open Go.RowKit
def IsT (b:Nat) (w:World) (v:Value) (f:FD):Prop:=∃ g c,v=.agg #[.int .i64 f.W,.int .i64 f.H,.slice (some ⟨g,0,none⟩) f.l.length c]∧b≤g∧TwR w g f.l c
def tb:Value→Nat
 | .agg cs=>match cs.toList with
  | [_,_,.slice (some a) _ _]=>a.block
  | _=>0
 | _=>0
def IsB3 (b:Nat) (w:World) (v:Value):Prop:=∃ g c0 c1 c2,v=.pointer (some ⟨g,0,none⟩)∧b≤g∧BlkV w g 53 #[c0,c1,c2]
def IsS3 (w:World) (v x:Value):Prop:=∃ g c0 c1 c2,v=.pointer (some ⟨g,0,none⟩)∧x=.agg #[c0,c1,c2]∧BlkV w g 53 #[c0,c1,c2]
section
variable {w w':World} {v x:Value} {b g':Nat} {cs:Array Value} {f:FD}
theorem IsT.keep (h:IsT b w v f) (hb:Below w.heap.size w w'):IsT b w' v f:=by
 obtain ⟨g,c,e,hg,r⟩:=h;exact ⟨g,c,e,hg,r.keep hb⟩
theorem IsB3.keep (h:IsB3 b w v) (hb:Below w.heap.size w w'):IsB3 b w' v:=by
 obtain ⟨g,c0,c1,c2,e,hg,r⟩:=h;exact ⟨g,c0,c1,c2,e,hg,r.keep hb⟩
theorem IsS3.keep (h:IsS3 w v x) (hb:Below w.heap.size w w'):IsS3 w' v x:=by
 obtain ⟨g,c0,c1,c2,e,hg,r⟩:=h;exact ⟨g,c0,c1,c2,e,hg,r.keep hb⟩
theorem IsT.st (h:IsT b w v f) (k:BlkV w g' 53 cs) (y z u:Value):IsT b (((w.setCell ⟨g',0,none⟩ y).setCell ⟨g',1,none⟩ z).setCell ⟨g',2,none⟩ u) v f:=by
 obtain ⟨g,c,e,hg,r⟩:=h;have hn:g≠g':=r.ne_ k (by decide);exact ⟨g,c,e,hg,((r.far (p:=⟨g',0,none⟩) hn y).far (p:=⟨g',1,none⟩) hn z).far (p:=⟨g',2,none⟩) hn u⟩
theorem IsB3.st (h:IsB3 b w v) (hne:v≠.pointer (some ⟨g',0,none⟩)) (y z u:Value):IsB3 b (((w.setCell ⟨g',0,none⟩ y).setCell ⟨g',1,none⟩ z).setCell ⟨g',2,none⟩ u) v:=by
 obtain ⟨g,c0,c1,c2,rfl,hg,r⟩:=h;have hn:g≠g':=fun e=>hne (by rw [e]);exact ⟨g,c0,c1,c2,rfl,hg,((r.far (p:=⟨g',0,none⟩) hn y).far (p:=⟨g',1,none⟩) hn z).far (p:=⟨g',2,none⟩) hn u⟩
theorem IsS3.st (h:IsS3 w v x) (hne:v≠.pointer (some ⟨g',0,none⟩)) (y z u:Value):IsS3 (((w.setCell ⟨g',0,none⟩ y).setCell ⟨g',1,none⟩ z).setCell ⟨g',2,none⟩ u) v x:=by
 obtain ⟨g,c0,c1,c2,rfl,e,r⟩:=h;have hn:g≠g':=fun e=>hne (by rw [e]);exact ⟨g,c0,c1,c2,rfl,e,((r.far (p:=⟨g',0,none⟩) hn y).far (p:=⟨g',1,none⟩) hn z).far (p:=⟨g',2,none⟩) hn u⟩
theorem IsB3.fresh (hb:b≤w.heap.size):IsB3 b (w.alloc (.cells #[.int .i64 0,.int .i64 0,.slice none 0 0] 53)) (.pointer (some ⟨w.heap.size,0,none⟩)):=⟨_,_,_,_,rfl,hb,BlkV.fresh rfl _ _⟩
theorem IsB3.ne (h:IsB3 b w v):v≠.pointer (some ⟨w.heap.size,0,none⟩):=by
 obtain ⟨g,c0,c1,c2,rfl,hg,r⟩:=h;intro e;have h1:=r.lt;injection e with e; injection e with e; injection e with e
 omega
end
structure I4 (f1 f4:FD) (w0:World) (l:Array Bool) (w:World) (x0 x1 x2 x3 x4 x5 x6 x7 x8:Value):Prop where
 hb:Below w0.heap.size w0 w
 p0:l.getD 0 false=true→x0=.agg #[.int .i64 f1.W,.int .i64 f1.H,.slice f1.A f1.l.length f1.c]
 p2:l.getD 2 false=true→x2=.agg #[.int .i64 f1.W,.int .i64 f1.H,.slice f1.A f1.l.length f1.c]
 p4:l.getD 4 false=true→x4=.agg #[.int .i64 f4.W,.int .i64 f4.H,.slice f4.A f4.l.length f4.c]
 p1:l.getD 1 false=true→IsT w0.heap.size w x1 f1
 p3:l.getD 3 false=true→IsT w0.heap.size w x3 f1
 p5:l.getD 5 false=true→IsT w0.heap.size w x5 f4
 o13:l.getD 3 false=true→tb x1 < tb x3
 o35:l.getD 5 false=true→tb x3 < tb x5
 p6:l.getD 6 false=true→IsB3 w0.heap.size w x6
 p7:l.getD 7 false=true→IsB3 w0.heap.size w x7
 p8:l.getD 8 false=true→IsB3 w0.heap.size w x8
 n67:l.getD 6 false=true→l.getD 7 false=true→x6≠x7
 n68:l.getD 6 false=true→l.getD 8 false=true→x6≠x8
 n78:l.getD 7 false=true→l.getD 8 false=true→x7≠x8
 p9:l.getD 9 false=true→IsS3 w x6 x1
 p10:l.getD 10 false=true→IsS3 w x7 x3
 p11:l.getD 11 false=true→IsS3 w x8 x5
 s9_6:l.getD 9 false=true→l.getD 6 false=true
 s9_1:l.getD 9 false=true→l.getD 1 false=true
 s10_7:l.getD 10 false=true→l.getD 7 false=true
 s10_3:l.getD 10 false=true→l.getD 3 false=true
 s11_8:l.getD 11 false=true→l.getD 8 false=true
 s11_5:l.getD 11 false=true→l.getD 5 false=true
 s3_1:l.getD 3 false=true→l.getD 1 false=true
 s5_3:l.getD 5 false=true→l.getD 3 false=true
structure R4 (f1 f4:FD) (w0 w:World) (g1 g2 g3 t1 t2 t3 c1 c2 c3:Nat):Prop where
 k1:BlkV w g1 53 #[.int .i64 f1.W,.int .i64 f1.H,.slice (some ⟨t1,0,none⟩) f1.l.length c1]
 k2:BlkV w g2 53 #[.int .i64 f1.W,.int .i64 f1.H,.slice (some ⟨t2,0,none⟩) f1.l.length c2]
 k3:BlkV w g3 53 #[.int .i64 f4.W,.int .i64 f4.H,.slice (some ⟨t3,0,none⟩) f4.l.length c3]
 r1:TwR w t1 f1.l c1
 r2:TwR w t2 f1.l c2
 r3:TwR w t3 f4.l c3
 n12:t1 < t2
 n23:t2 < t3
 ge:w0.heap.size≤t1
 hb:Below w0.heap.size w0 w
theorem I4.fin {f1 f4:FD} {w0 w:World} {l:Array Bool} {x0 x1 x2 x3 x4 x5 x6 x7 x8:Value} (H:I4 f1 f4 w0 l w x0 x1 x2 x3 x4 x5 x6 x7 x8) (hall:∀ j,j < 12→l.getD j false=true) :
  ∃ b6 b7 b8 t1 t3 t5 c1 c3 c5:Nat,x6=.pointer (some ⟨b6,0,none⟩)∧x7=.pointer (some ⟨b7,0,none⟩)∧x8=.pointer (some ⟨b8,0,none⟩)∧R4 f1 f4 w0 w b6 b7 b8 t1 t3 t5 c1 c3 c5:=by
 obtain ⟨t1,c1,e1,ht1,tw1⟩:=H.p1 (hall 1 (by decide));obtain ⟨t3,c3,e3,ht3,tw3⟩:=H.p3 (hall 3 (by decide));obtain ⟨t5,c5,e5,ht5,tw5⟩:=H.p5 (hall 5 (by decide));obtain ⟨b6,u0,u1,u2,e6,q6,hk6⟩:=H.p9 (hall 9 (by decide));obtain ⟨b7,v0,v1,v2,e7,q7,hk7⟩:=H.p10 (hall 10 (by decide));obtain ⟨b8,z0,z1,z2,e8,q8,hk8⟩:=H.p11 (hall 11 (by decide));have o1:=H.o13 (hall 3 (by decide));have o3:=H.o35 (hall 5 (by decide));have hb:=H.hb;clear H hall;subst e1 e3 e5 e6 e7 e8;have a6:#[u0,u1,u2]=#[Value.int .i64 f1.W,.int .i64 f1.H,.slice (some ⟨t1,0,none⟩) f1.l.length c1]:=by injection q6 with q; exact q.symm
 have a7:#[v0,v1,v2]=#[Value.int .i64 f1.W,.int .i64 f1.H,.slice (some ⟨t3,0,none⟩) f1.l.length c3]:=by injection q7 with q; exact q.symm
 have a8:#[z0,z1,z2]=#[Value.int .i64 f4.W,.int .i64 f4.H,.slice (some ⟨t5,0,none⟩) f4.l.length c5]:=by injection q8 with q; exact q.symm
 rw [a6] at hk6;rw [a7] at hk7;rw [a8] at hk8;exact ⟨b6,b7,b8,t1,t3,t5,c1,c3,c5,rfl,rfl,rfl,⟨hk6,hk7,hk8,tw1,tw3,tw5,o1,o3,ht1,hb⟩⟩
def mixL (v:Int) (l:List Int) (k:Nat):List Int:=List.replicate k v ++ l.drop k
def mulL (t:Int) (l:List Int) (k:Nat):List Int:=(l.take k).map (· * t) ++ l.drop k
def fitL (t:Int) (l:List Int) (n:Nat):Bool:=(List.range n).all fun i=>decide (-4294967296≤l.getD i 0 * t) && decide (l.getD i 0 * t≤4294967296)
theorem mixL_len {v:Int} {l:List Int} {k:Nat} (h:k≤l.length):(mixL v l k).length=l.length:=by simp [mixL]; omega
theorem mulL_len {t:Int} {l:List Int} {k:Nat} (h:k≤l.length):(mulL t l k).length=l.length:=by simp [mulL]; omega
theorem mixL_0 (v:Int) (l:List Int):mixL v l 0=l:=by simp [mixL]
theorem mulL_0 (t:Int) (l:List Int):mulL t l 0=l:=by simp [mulL]
theorem mixL_n (v:Int) (l:List Int):mixL v l l.length=List.replicate l.length v:=by simp [mixL]
theorem mulL_n (t:Int) (l:List Int):mulL t l l.length=l.map (· * t):=by simp [mulL]
theorem mixL_set {v:Int} {l:List Int} {k:Nat} (h:k < l.length):(mixL v l k).set k v=mixL v l (k+1):=by
 unfold mixL;have e:(List.replicate k v).length=k:=(by simp);rw [List.drop_eq_getElem_cons h,List.set_append_right _ _ (by omega),e,Nat.sub_self,List.set_cons_zero,List.replicate_succ',List.append_assoc];rfl
theorem mulL_set {t:Int} {l:List Int} {k:Nat} (h:k < l.length):(mulL t l k).set k (l.getD k 0 * t)=mulL t l (k+1):=by
 unfold mulL;have e:((l.take k).map (· * t)).length=k:=(by simp; omega);rw [List.drop_eq_getElem_cons h,List.set_append_right _ _ (by omega),e,Nat.sub_self,List.set_cons_zero,← List.take_append_getElem h,getD_at h,List.map_append,List.append_assoc];rfl
theorem mulL_at {t:Int} {l:List Int} {k:Nat} (h:k < l.length) (h2:k < (mulL t l k).length):(mulL t l k)[k]'h2=l.getD k 0:=by
 have e:((l.take k).map (· * t)).length=k:=(by simp; omega);unfold mulL at h2 ⊢;rw [List.getElem_append_right (by omega),getD_at h,List.getElem_drop];congr 1
 rw [e]; omega
theorem fitL_succ (t:Int) (l:List Int) (n:Nat):fitL t l (n+1)=(fitL t l n && (decide (-4294967296≤l.getD n 0 * t) && decide (l.getD n 0 * t≤4294967296))):=by
 unfold fitL;rw [List.range_succ,List.all_append];simp
theorem chk_sized {f:FD} {l:List Int} (h:f.chk=0) (hl:l.length=f.l.length) (hb:∀ x∈l,-4294967296≤x∧x≤4294967296) (A:Option Addr) (c:Nat):FD.chk ⟨f.W,f.H,A,l,c⟩=0:=by
 obtain ⟨a,b,d,-⟩:=fchk_facts h;exact fchk_good ⟨a,b,by rw [hl]; exact d,hb⟩
theorem fit_chk {f:FD} {t:Int} (h:f.chk=0) (hf:fitL t f.l f.l.length=true) (A:Option Addr) (c:Nat):FD.chk ⟨f.W,f.H,A,f.l.map (· * t),c⟩=0:=by
 refine chk_sized h (by simp) (fun x hx=>?_) A c;obtain ⟨k,hk,rfl⟩:=List.getElem_of_mem hx;rw [List.length_map] at hk;unfold fitL at hf;have:=List.all_eq_true.1 hf k (List.mem_range.2 hk);rw [getD_at hk,Bool.and_eq_true,decide_eq_true_eq,decide_eq_true_eq] at this;rw [List.getElem_map];exact this
theorem rep_chk {f:FD} {v:Int} (h:f.chk=0) (h1:0≤v) (h2:v≤1048576) (A:Option Addr) (c:Nat):FD.chk ⟨f.W,f.H,A,List.replicate f.l.length v,c⟩=0:=
 chk_sized h (by simp) (fun x hx=>by rw [(List.mem_replicate.1 hx).2]; omega) A c
structure L5 (f1 f4:FD) (lv tm:Int) (w0 w:World) (g1 g2 g3 t1 t2 t3 c1 c2 c3 k:Nat):Prop where
 k1:BlkV w g1 53 #[.int .i64 f1.W,.int .i64 f1.H,.slice (some ⟨t1,0,none⟩) f1.l.length c1]
 k2:BlkV w g2 53 #[.int .i64 f1.W,.int .i64 f1.H,.slice (some ⟨t2,0,none⟩) f1.l.length c2]
 k3:BlkV w g3 53 #[.int .i64 f4.W,.int .i64 f4.H,.slice (some ⟨t3,0,none⟩) f4.l.length c3]
 r1:TwR w t1 (mixL lv f1.l k) c1
 r2:TwR w t2 (mixL 0 f1.l k) c2
 r3:TwR w t3 (mulL tm f4.l k) c3
 n12:t1 < t2
 n23:t2 < t3
 ge:w0.heap.size≤t1
 hb:Below w0.heap.size w0 w
theorem R4.start {f1 f4:FD} {w0 w:World} {g1 g2 g3 t1 t2 t3 c1 c2 c3:Nat} (h:R4 f1 f4 w0 w g1 g2 g3 t1 t2 t3 c1 c2 c3) (lv tm:Int):L5 f1 f4 lv tm w0 w g1 g2 g3 t1 t2 t3 c1 c2 c3 0:=
 ⟨h.k1,h.k2,h.k3,by rw [mixL_0]; exact h.r1,by rw [mixL_0]; exact h.r2,by rw [mulL_0]; exact h.r3,h.n12,h.n23,h.ge,h.hb⟩
theorem L5.drewN {f1 f4:FD} {lv tm:Int} {w0 w:World} {g1 g2 g3 t1 t2 t3 c1 c2 c3 k:Nat} (h:L5 f1 f4 lv tm w0 w g1 g2 g3 t1 t2 t3 c1 c2 c3 k) (n:Nat):L5 f1 f4 lv tm w0 (w.drewN n) g1 g2 g3 t1 t2 t3 c1 c2 c3 k:=by
 have hb:=below_drewN (Below.refl w.heap.size w) n;exact ⟨h.k1.keep hb,h.k2.keep hb,h.k3.keep hb,h.r1.keep hb,h.r2.keep hb,h.r3.keep hb,h.n12,h.n23,h.ge,q0a h.hb hb⟩
theorem L5.drew {f1 f4:FD} {lv tm:Int} {w0 w:World} {g1 g2 g3 t1 t2 t3 c1 c2 c3 k:Nat} (h:L5 f1 f4 lv tm w0 w g1 g2 g3 t1 t2 t3 c1 c2 c3 k):L5 f1 f4 lv tm w0 w.drew g1 g2 g3 t1 t2 t3 c1 c2 c3 k:=
 ⟨h.k1.drew,h.k2.drew,h.k3.drew,h.r1.drew,h.r2.drew,h.r3.drew,h.n12,h.n23,h.ge,h.hb.drew⟩
theorem mulL_at1 {t:Int} {l:List Int} {k:Nat} (h:k < l.length) (h2:k < (mulL t l (k+1)).length):(mulL t l (k+1))[k]'h2=l.getD k 0 * t:=by
 have e:((l.take (k+1)).map (· * t)).length=k+1:=(by simp; omega);unfold mulL at h2 ⊢;rw [List.getElem_append_left (by omega),getD_at h,List.getElem_map,List.getElem_take]
theorem L5.step {f1 f4:FD} {lv tm:Int} {w0 w:World} {g1 g2 g3 t1 t2 t3 c1 c2 c3 k:Nat} (h:L5 f1 f4 lv tm w0 w g1 g2 g3 t1 t2 t3 c1 c2 c3 k) (hk:k < f1.l.length) (h4:k < f4.l.length) :
  L5 f1 f4 lv tm w0 (((w.setCell ⟨t1,k,none⟩ (.int .i64 lv)).setCell ⟨t2,k,none⟩ (.int .i64 0)).setCell ⟨t3,k,none⟩ (.int .i64 (f4.l.getD k 0 * tm))) g1 g2 g3 t1 t2 t3 c1 c2 c3 (k+1):=by
 have a:=h.n12;have b:=h.n23;have c:=h.ge
 have e:∀ {g:Nat} {cs:Array Value},BlkV w g 53 cs→BlkV (((w.setCell ⟨t1,k,none⟩ (.int .i64 lv)).setCell ⟨t2,k,none⟩ (.int .i64 0)).setCell ⟨t3,k,none⟩ (.int .i64 (f4.l.getD k 0 * tm))) g 53 cs:=fun q=>
  ((q.far (p:=⟨t1,k,none⟩) (h.r1.ne_ q (by decide)).symm _).far (p:=⟨t2,k,none⟩) (h.r2.ne_ q (by decide)).symm _).far (p:=⟨t3,k,none⟩) (h.r3.ne_ q (by decide)).symm _
 refine ⟨e h.k1,e h.k2,e h.k3,?_,?_,?_,a,b,c,?_⟩
 ·have q:=((h.r1.put k lv).far (p:=⟨t2,k,none⟩) (show t1≠t2 by omega) (.int .i64 0)).far (p:=⟨t3,k,none⟩) (show t1≠t3 by omega) (.int .i64 (f4.l.getD k 0 * tm));rwa [mixL_set hk] at q
 ·have q:=(((h.r2.far (p:=⟨t1,k,none⟩) (show t2≠t1 by omega) (.int .i64 lv))).put k 0).far (p:=⟨t3,k,none⟩) (show t2≠t3 by omega) (.int .i64 (f4.l.getD k 0 * tm));rwa [mixL_set hk] at q
 ·have q:=(((h.r3.far (p:=⟨t1,k,none⟩) (show t3≠t1 by omega) (.int .i64 lv))).far (p:=⟨t2,k,none⟩) (show t3≠t2 by omega) (.int .i64 0)).put k (f4.l.getD k 0 * tm);rwa [mulL_set h4] at q
 ·exact ((h.hb.setCell (p:=⟨t1,k,none⟩) (show w0.heap.size≤t1 by omega) _).setCell (p:=⟨t2,k,none⟩) (show w0.heap.size≤t2 by omega) _).setCell (p:=⟨t3,k,none⟩) (show w0.heap.size≤t3 by omega) _
theorem ok_row {f:FD} {w:World} {B g c:Nat} {l:List Int} (ok:OkD w B f) (h:TwR w g l c) (hl:In64 l) (hn:l.length≤17592186044416):OkD w w.heap.size ⟨f.W,f.H,some ⟨g,0,none⟩,l,c⟩:=
 ⟨h.sli hl hn,ok.w1,ok.w2,ok.h1,ok.h2⟩
theorem ok_here {f:FD} {w:World} {B:Nat} (ok:OkD w B f):OkD w w.heap.size f:=⟨ok.sl.here,ok.w1,ok.w2,ok.h1,ok.h2⟩
theorem flat_call {f1 f2 f3 f4:FD} {E D lv:Int} {B t1 t2 c1 c2:Nat} {V:World} (h:ApOk f1 f2 f3 f4 E D) (lv1:1≤lv) (lv2:lv≤1048576) (o1:OkD V B f1) (o2:OkD V B f2) (r1:TwR V t1 (List.replicate f1.l.length lv) c1) (r2:TwR V t2 (List.replicate f1.l.length 0) c2) :
  Calls Tryz.prog 28 #[.agg #[.int .i64 f1.W,.int .i64 f1.H,.slice f1.A f1.l.length f1.c],.agg #[.int .i64 f2.W,.int .i64 f2.H,.slice f2.A f2.l.length f2.c],.agg #[.int .i64 f1.W,.int .i64 f1.H,.slice (some ⟨t2,0,none⟩) f1.l.length c2],.agg #[.int .i64 f1.W,.int .i64 f1.H,.slice (some ⟨t1,0,none⟩) f1.l.length c1],.int .i64 E,.int .i64 D] V
   (ApR (if plainL f1.l f2.l f1.l.length=true then ⟨f1.W,f1.H,subL f1.l f2.l f1.l.length,bdL (List.replicate f1.l.length lv) f1.l.length,0⟩ else ⟨0,0,[],[],16⟩) V):=by
 have hn:=(q1g h.c1).2;have hi:∀ v:Int,0≤v→v≤1048576→In64 (List.replicate f1.l.length v):=fun v a b x hx=>by rw [(List.mem_replicate.1 hx).2]; omega
 have q:=capply_any f1 f2 ⟨f1.W,f1.H,some ⟨t2,0,none⟩,List.replicate f1.l.length 0,c2⟩ ⟨f1.W,f1.H,some ⟨t1,0,none⟩,List.replicate f1.l.length lv,c1⟩ E D V.heap.size V (ok_here o1) (ok_here o2)
  (ok_row o1 r2 (hi 0 (by omega) (by omega)) (by simp; omega)) (ok_row o1 r1 (hi lv (by omega) lv2) (by simp; omega))
 have hs:aliB f1 f1=true:=by simp [aliB]
 have hk:ApOk f1 f2 ⟨f1.W,f1.H,some ⟨t2,0,none⟩,List.replicate f1.l.length 0,c2⟩ ⟨f1.W,f1.H,some ⟨t1,0,none⟩,List.replicate f1.l.length lv,c1⟩ E D:=
  ⟨h.c1,h.c2,rep_chk h.c1 (by omega) (by omega) _ _,rep_chk h.c1 (by omega) lv2 _ _,h.a2,hs,hs,h.e0,h.e1,h.d0,h.d1⟩
 rw [flat_out hk rfl rfl lv1 lv2] at q;dsimp only at q;rw [List.length_replicate,List.length_replicate] at q;exact q
theorem more_call {f1 f2 f3 f4:FD} {E D tm:Int} {B t3 c3:Nat} {V:World} (h:ApOk f1 f2 f3 f4 E D) (tm1:1≤tm) (hf:fitL tm f4.l f1.l.length=true) (e4:f4.l.length=f1.l.length) (o1:OkD V B f1) (o2:OkD V B f2) (o3:OkD V B f3) (o4:OkD V B f4) (r3:TwR V t3 (f4.l.map (· * tm)) c3) :
  Calls Tryz.prog 28 #[.agg #[.int .i64 f1.W,.int .i64 f1.H,.slice f1.A f1.l.length f1.c],.agg #[.int .i64 f2.W,.int .i64 f2.H,.slice f2.A f2.l.length f2.c],.agg #[.int .i64 f3.W,.int .i64 f3.H,.slice f3.A f3.l.length f3.c],.agg #[.int .i64 f4.W,.int .i64 f4.H,.slice (some ⟨t3,0,none⟩) f4.l.length c3],.int .i64 E,.int .i64 D] V (ApR (apOut f1 f2 f3 f4 E D) V):=by
 have hn:=(q1g h.c4).2;rw [← e4] at hf;have hc:=fit_chk h.c4 hf (some ⟨t3,0,none⟩) c3;have hi:In64 (f4.l.map (· * tm)):=fun x hx=>by have:=(q1g hc).1 x hx; omega
 have q:=capply_any f1 f2 f3 ⟨f4.W,f4.H,some ⟨t3,0,none⟩,f4.l.map (· * tm),c3⟩ E D V.heap.size V (ok_here o1) (ok_here o2) (ok_here o3) (ok_row o4 r3 hi (by simp; omega));have hk:ApOk f1 f2 f3 ⟨f4.W,f4.H,some ⟨t3,0,none⟩,f4.l.map (· * tm),c3⟩ E D:=⟨h.c1,h.c2,h.c3,hc,h.a2,h.a3,h.a4,h.e0,h.e1,h.d0,h.d1⟩;rw [flat_more h hk rfl tm1] at q;dsimp only at q;rw [List.length_map] at q;exact q
end Go.Proofs.YtgnjhlnolihgcaaGreat
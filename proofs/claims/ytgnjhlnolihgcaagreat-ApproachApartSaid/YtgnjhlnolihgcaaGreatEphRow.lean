import Derived.Test.YtgnjhlnolihgcaaGreatMg2
import Derived.Deep.Slices
import Derived.Laws.IdiomArrays
set_option maxRecDepth 100000
namespace Go.Proofs.YtgnjhlnolihgcaaGreat
open Go.ChangeShapes Go.WideShapes Go.ChangeAt Go.RowKit Go.Joins Go.Deep
section
variable {H:Type} {enc:TypeId × Value→H} {P:Program}
theorem weights_all {e:TypeId} {d:DataW H} {k:Nat} (hk:k∈d.weights P e):∀ {ds:List (DataW H)},d∈ds→k∈DataW.weightsAll P e ds
 | [],h=>by cases h
 | x :: t,h=>by
  unfold DataW.weightsAll;rcases List.mem_cons.1 h with rfl | h
  ·exact List.mem_append_left _ hk
  ·exact List.mem_append_right _ (weights_all hk h)
theorem open_rows {α:Type} {cells:α→List Value} {m:Nat} {Q:α→Prop} {t e:TypeId} {W:World} {v:Value} {y:DataW H × List MemPlace} {fuel bt:Nat} (hm:∀ x,(cells x).length=m) (h0:0 < m) (ht:P.underlying t=some (.slice e)) (hc:P.cellsOf e=m)
  (hb:P.bytesOf e=bt) (hb32:32≤bt)
  (hEl:∀ (cs:List Value) (n:Nat) (d:DataW H) (p:List MemPlace),cs.length=m→DataW.trod enc P W 0 (fun _=>true) true n e cs=some (d,p)→(∀ k∈d.weights P e,k≤reachBytes)→∃ x,cs=cells x∧Q x)
  (h:DataW.trod enc P W 0 (fun _=>true) true fuel t [v]=some y) (hw:∀ n∈y.1.weights P t,n≤reachBytes) :
  ∃ (A:Option Addr) (xs:List α) (c:Nat),v=.slice A xs.length c∧RdV W W.heap.size A (xs.flatMap cells)∧(∀ x∈xs,Q x)∧xs.length≤c∧xs.length≤4398046511104:=by
 rcases open_slice ht h with ⟨e1,_⟩ | ⟨a,len,cap,mm,n,D,Pl,e1,_,hl,hcap,hmm,hx,hi⟩
 ·simp only [List.cons.injEq,and_true] at e1;subst e1;exact ⟨none,[],0,rfl,fun hp=>absurd hp (by simp),by simp,by simp,by simp⟩
 ·simp only [List.cons.injEq,and_true] at e1;subst e1;simp only [if_true] at hmm;subst hmm;rw [hc] at hi
  have hlen:len * bt≤reachBytes:=by
   have:=hw ((len+(mm - len)) * bt) (by
    rw [hx];simp only [DataW.weights,ht,List.length_map,List.length_range,hb];exact List.mem_cons_self ..)
   have h2:len * bt≤(len+(mm - len)) * bt:=Nat.mul_le_mul_right _ (by omega);omega
  have hlen2:len * 32≤reachBytes:=Nat.le_trans (Nat.mul_le_mul_left _ hb32) hlen
  have each:∀ i,i < len→∃ x:α,W.cells? 0 (a.add (i * m)) m=some (cells x)∧Q x:=fun i hil=>by
   obtain ⟨cs,h1,h2⟩:=hi i (by omega);obtain ⟨_,hl2,_⟩:=World.cells?_some h1
   obtain ⟨x,rfl,hq⟩:=hEl cs n (D i) (Pl i) hl2 h2 (fun k hk=>hw k (by
    rw [hx];simp only [DataW.weights,ht];refine List.mem_cons_of_mem _ (List.mem_append_left _ (weights_all hk ?_));exact List.mem_map.2 ⟨i,List.mem_range.2 hil,rfl⟩))
   exact ⟨x,h1,hq⟩
  rcases Nat.eq_zero_or_pos len with rfl | hpos
  ·exact ⟨some a,[],mm,rfl,fun hp=>absurd hp (by simp),by simp,by simp,by simp⟩
  obtain ⟨V,hV⟩:∃ V:Nat→α,∀ i,i < len→W.cells? 0 (a.add (i * m)) m=some (cells (V i))∧Q (V i):=by
   obtain ⟨x0,_⟩:=each 0 hpos;haveI:Inhabited α:=⟨x0⟩
   exact choose_lt each
  have hxl:((List.range len).map V).length=len:=(by simp);refine ⟨some a,(List.range len).map V,mm,by rw [hxl],fun _=>?_,fun x hx=>?_,by omega,?_⟩
  ·have hcell:∀ i j,i < len→j < m→W.cell? (a.add (i * m+j))=(cells (V i))[j]?:=fun i j hil hj=>by
    obtain ⟨_,_,hat⟩:=World.cells?_some (hV i hil).1;rw [← Go.Deep.add_add]; exact hat j hj
   obtain ⟨b,off,spot⟩:=a;have hc0:=hcell 0 0 hpos h0;rw [List.getElem?_eq_getElem (by rw [hm]; exact h0)] at hc0;have hspot:spot=none:=(by simpa [Addr.add] using World.cell?_spot hc0);subst hspot;refine ⟨b,off,rfl,?_,fun i v hv=>?_⟩
   ·have:=lt_of_cell hc0;simpa [Addr.add] using this
   ·have hil:i < len * m:=by
     have h3:=(List.getElem?_eq_some_iff.1 hv).1
     have h4:∀ (l:List α),(l.flatMap cells).length=l.length * m:=fun l=>by
      induction l with
      | nil=>simp
      | cons x t ih=>rw [List.flatMap_cons,List.length_append,ih,hm,List.length_cons,Nat.succ_mul,Nat.add_comm]
     rwa [h4,hxl] at h3
    have hd:i / m < len:=(Nat.div_lt_iff_lt_mul h0).2 hil;have hr:i % m < m:=Nat.mod_lt _ h0;have hi2:i / m * m+i % m=i:=(by rw [Nat.mul_comm]; exact Nat.div_add_mod i m);have h5:=flatN hm ((List.range len).map V) (i / m) (i % m) (by rw [hxl]; exact hd) hr;rw [hi2,hv] at h5;have h6:=hcell (i / m) (i % m) hd hr;rw [hi2,add_plain] at h6;rw [h6,h5];simp
  ·obtain ⟨i,hi1,rfl⟩:=List.mem_map.1 hx;exact (hV i (List.mem_range.1 hi1)).2
  ·rw [hxl];have:reachBytes=140737488351232:=rfl;omega
end
section
variable {H:Type} {enc:TypeId × Value→H}
theorem cells_seg:Tryz.prog.cellsOf 95 = 5:=by kernel_rfl
theorem cells_body:Tryz.prog.cellsOf 92 = 4:=by kernel_rfl
theorem open_segs {W:World} {v:Value} {y:DataW H × List MemPlace} {fuel:Nat} (h:DataW.trod enc Tryz.prog W 0 (fun _=>true) true fuel 90 [v]=some y) (hw:∀ n∈y.1.weights Tryz.prog 90,n≤reachBytes) :
  ∃ (A:Option Addr) (ss:List SG) (c:Nat),v=.slice A ss.length c∧SlS W W.heap.size A ss c:=by
 have hEl:∀ (cs:List Value) (n:Nat) (d:DataW H) (p:List MemPlace),cs.length=5→DataW.trod enc Tryz.prog W 0 (fun _=>true) true n 95 cs=some (d,p)→(∀ k∈d.weights Tryz.prog 95,k≤reachBytes)→∃ x,cs=SG.cells x∧OkS W W.heap.size x:=by
  intro cs n d p hl hd hw
  match cs,hl with
  | [v0,v1,v2,v3,v4],_=>
   obtain ⟨y0,y1,y2,n2,hx,_,h0,h1,h2⟩:=Go.Deep.trod_struct3 Tryz.underlying95 hd;simp only [Prod.mk.injEq] at hx;obtain ⟨rfl,_⟩:=hx;simp [show Tryz.prog.cellsOf 2 = 1 by kernel_rfl,show Tryz.prog.cellsOf 93 = 3 by kernel_rfl] at h0 h1 h2;obtain ⟨m0,e0,_,w0⟩:=DataW.trod_int Tryz.underlying2 h0;obtain ⟨m1,e1,_,w1⟩:=DataW.trod_int Tryz.underlying2 h1;simp only [List.cons.injEq,and_true] at e0 e1;subst e0 e1;obtain ⟨z0,z1,z2,n3,hx3,g0,g1,g2⟩:=trod_array3 Tryz.underlying93 (by kernel_rfl) h2;subst hx3
   have hw2:∀ k∈z0.1.weights Tryz.prog 51 ++ (z1.1.weights Tryz.prog 51 ++ z2.1.weights Tryz.prog 51),k≤reachBytes:=fun k hk=>hw k (by
    simp [DataW.weights,DataW.weightsEach,DataW.weightsAll,Tryz.underlying95,Tryz.underlying93];simp only [List.mem_append] at hk;exact .inr (.inr hk))
   obtain ⟨A0,l0,c0,rfl,s0⟩:=open_i64s g0 (fun k hk=>hw2 k (by simp [hk]));obtain ⟨A1,l1,c1,rfl,s1⟩:=open_i64s g1 (fun k hk=>hw2 k (by simp [hk]));obtain ⟨A2,l2,c2,rfl,s2⟩:=open_i64s g2 (fun k hk=>hw2 k (by simp [hk]));have b0:=bounds_i64 w0;have b1:=bounds_i64 w1;exact ⟨⟨m0,m1,A0,l0,c0,A1,l1,c1,A2,l2,c2⟩,rfl,⟨s0,s1,s2,b0.1,b0.2,b1.1,b1.2⟩⟩
 obtain ⟨A,ss,c,e,r,q,l1,l2⟩:=open_rows (cells:=SG.cells) (m:=5) (Q:=OkS W W.heap.size) (bt:=88) (fun _=>rfl) (by omega) Tryz.underlying90 cells_seg (by kernel_rfl) (by omega) hEl h hw;exact ⟨A,ss,c,e,r,q,l1,l2⟩
theorem open_bodies {W:World} {v:Value} {y:DataW H × List MemPlace} {fuel:Nat} (h:DataW.trod enc Tryz.prog W 0 (fun _=>true) true fuel 22 [v]=some y) (hw:∀ n∈y.1.weights Tryz.prog 22,n≤reachBytes) :
  ∃ (A:Option Addr) (bs:List BG) (c:Nat),v=.slice A bs.length c∧SlB W W.heap.size A bs c:=by
 have hEl:∀ (cs:List Value) (n:Nat) (d:DataW H) (p:List MemPlace),cs.length=4→DataW.trod enc Tryz.prog W 0 (fun _=>true) true n 92 cs=some (d,p)→(∀ k∈d.weights Tryz.prog 92,k≤reachBytes)→∃ x,cs=BG.cells x∧OkB W W.heap.size x:=by
  intro cs n d p hl hd hw
  match cs,hl with
  | [v0,v1,v2,v3],_=>
   obtain ⟨xs,n2,_,hx,_,hlen,hf⟩:=DataW.trod_struct Tryz.underlying92 hd
   match xs,hlen with
   | [y0,y1,y2,y3],_=>
    have h0:=hf 0 _ rfl;have h1:=hf 1 _ rfl;have h2:=hf 2 _ rfl;have h3:=hf 3 _ rfl;clear hf;simp only [Prod.mk.injEq] at hx;obtain ⟨rfl,_⟩:=hx;simp [show Tryz.prog.cellsOf 2 = 1 by kernel_rfl,show Tryz.prog.cellsOf 9 = 1 by kernel_rfl,show Tryz.prog.cellsOf 90 = 1 by kernel_rfl] at h0 h1 h2 h3;obtain ⟨s0,e0,ed,hs0⟩:=DataW.trod_string Tryz.underlying9 h0;obtain ⟨m1,e1,_,w1⟩:=DataW.trod_int Tryz.underlying2 h1;obtain ⟨m2,e2,_,w2⟩:=DataW.trod_int Tryz.underlying2 h2;simp only [List.cons.injEq,and_true] at e0 e1 e2;subst e0 e1 e2;subst ed
    obtain ⟨A,ss,c,rfl,sl⟩:=open_segs h3 (fun k hk=>hw k (by
     simp [DataW.weights,DataW.weightsEach,Tryz.underlying92];exact .inr (.inr (.inr hk))))
    have hn:=hw (s0.data.toList.length) (by
     simp [DataW.weights,DataW.weightsEach,Tryz.underlying92])
    have b1:=bounds_i64 w1;have b2:=bounds_i64 w2;have:reachBytes=140737488351232:=rfl;exact ⟨⟨s0.data.toList,m1,m2,A,ss,c⟩,rfl,⟨sl,by show s0.data.toList.length≤_; omega,b1.1,b1.2,b2.1,b2.2⟩⟩
 obtain ⟨A,bs,c,e,r,q,l1,l2⟩:=open_rows (cells:=BG.cells) (m:=4) (Q:=OkB W W.heap.size) (bt:=56) (fun _=>rfl) (by omega) Tryz.underlying22 cells_body (by kernel_rfl) (by omega) hEl h hw;exact ⟨A,bs,c,e,r,q,l1,l2⟩
theorem open_ephem {r:Reach} {b0:Nat} {W:World} {v:Value} {d:DataW H} {p:List MemPlace} (hv:Value.okWide Tryz.prog W r b0 24 v)
  (h:DataW.Trod enc Tryz.prog W 0 (fun _=>true) true 24 v d p) (hw:∀ n∈d.weights Tryz.prog 24,n≤reachBytes) :
  ∃ (A:Option Addr) (bs:List BG) (c:Nat),v=.agg #[.slice A bs.length c]∧SlB W W.heap.size A bs c:=by
 obtain ⟨cs,rfl,hsz⟩:=okWide_struct Tryz.underlying24 hv;obtain ⟨l⟩:=cs
 match l,hsz.trans (show Tryz.prog.cellsOf 24 = 1 by kernel_rfl) with
 | [v0],_=>
  obtain ⟨fuel,hf⟩:=h;obtain ⟨xs,n2,_,hx,_,hlen,hg⟩:=DataW.trod_struct Tryz.underlying24 hf
  match xs,hlen with
  | [y0],_=>
   have h0:=hg 0 _ rfl;simp only [Prod.mk.injEq] at hx;obtain ⟨rfl,_⟩:=hx;simp [Value.cells,show Tryz.prog.cellsOf 22 = 1 by kernel_rfl] at h0
   obtain ⟨A,bs,c,rfl,s⟩:=open_bodies h0 (fun k hk=>hw k (by
    simp [DataW.weights,DataW.weightsEach,Tryz.underlying24];exact hk))
   exact ⟨A,bs,c,rfl,s⟩
end
end Go.Proofs.YtgnjhlnolihgcaaGreat
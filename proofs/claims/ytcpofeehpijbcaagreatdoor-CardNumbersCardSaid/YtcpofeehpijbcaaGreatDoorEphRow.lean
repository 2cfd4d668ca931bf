import Derived.Test.YtcpofeehpijbcaaGreatDoorRow
import Derived.Test.YtcpofeehpijbcaaGreatDoorMg3
import Derived.Deep.Slices
import Derived.Laws.IdiomArrays
import Derived.Deep.Strs
namespace Go.Proofs.YtcpofeehpijbcaaGreatDoor
open Go.ChangeShapes Go.WideShapes Go.ChangeAt Go.RowKit Go.Joins Go.Deep
section
variable {H:Type} {enc:TypeId × Value→H} {P:Program}
theorem weights_all {e:TypeId} {d:DataW H} {k:Nat} (hk:k∈d.weights P e):∀ {ds:List (DataW H)},d∈ds→k∈DataW.weightsAll P e ds
 | [],h=>by cases h
 | x :: t,h=>by
  unfold DataW.weightsAll;rcases List.mem_cons.1 h with rfl | h
  ·exact List.mem_append_left _ hk
  ·exact List.mem_append_right _ (weights_all hk h)
theorem open_rows {α:Type} {cells:α→List Value} {m:Nat} {Q:α→Prop} {t e:TypeId} {W:World} {v:Value} {y:DataW H × List MemPlace} {fuel bt:Nat} (hm:∀ x,(cells x).length=m) (h0:0 < m) (ht:P.underlying t=some (.slice e)) (hc:P.cellsOf e=m)
  (hb:P.bytesOf e=bt) (hb32:32≤bt)
  (hEl:∀ (cs:List Value) (n:Nat) (d:DataW H) (p:List MemPlace),cs.length=m→DataW.trod enc P W 0 (fun _=>true) true n e cs=some (d,p)→(∀ k∈d.weights P e,k≤reachBytes)→∃ x,cs=cells x∧Q x)
  (h:DataW.trod enc P W 0 (fun _=>true) true fuel t [v]=some y) (hw:∀ n∈y.1.weights P t,n≤reachBytes) :
  ∃ (A:Option Addr) (xs:List α) (c:Nat),v=.slice A xs.length c∧RdV W W.heap.size A (xs.flatMap cells)∧(∀ x∈xs,Q x)∧xs.length≤c∧xs.length≤4398046511104:=by
 rcases open_slice ht h with ⟨e1,_⟩ | ⟨a,len,cap,mm,n,D,Pl,e1,_,hl,hcap,hmm,hx,hi⟩
 ·simp only [List.cons.injEq,and_true] at e1;subst e1;exact ⟨none,[],0,rfl,fun hp=>absurd hp (by simp),by simp,by simp,by simp⟩
 ·simp only [List.cons.injEq,and_true] at e1;subst e1;simp only [if_true] at hmm;subst hmm;rw [hc] at hi
  have hlen:len * bt≤reachBytes:=by
   have:=hw ((len+(mm - len)) * bt) (by
    rw [hx];simp only [DataW.weights,ht,List.length_map,List.length_range,hb];exact List.mem_cons_self ..)
   have h2:len * bt≤(len+(mm - len)) * bt:=Nat.mul_le_mul_right _ (by omega);omega
  have hlen2:len * 32≤reachBytes:=Nat.le_trans (Nat.mul_le_mul_left _ hb32) hlen
  have each:∀ i,i < len→∃ x:α,W.cells? 0 (a.add (i * m)) m=some (cells x)∧Q x:=fun i hil=>by
   obtain ⟨cs,h1,h2⟩:=hi i (by omega);obtain ⟨_,hl2,_⟩:=World.cells?_some h1
   obtain ⟨x,rfl,hq⟩:=hEl cs n (D i) (Pl i) hl2 h2 (fun k hk=>hw k (by
    rw [hx];simp only [DataW.weights,ht];refine List.mem_cons_of_mem _ (List.mem_append_left _ (weights_all hk ?_));exact List.mem_map.2 ⟨i,List.mem_range.2 hil,rfl⟩))
   exact ⟨x,h1,hq⟩
  rcases Nat.eq_zero_or_pos len with rfl | hpos
  ·exact ⟨some a,[],mm,rfl,fun hp=>absurd hp (by simp),by simp,by simp,by simp⟩
  obtain ⟨V,hV⟩:∃ V:Nat→α,∀ i,i < len→W.cells? 0 (a.add (i * m)) m=some (cells (V i))∧Q (V i):=by
   obtain ⟨x0,_⟩:=each 0 hpos;haveI:Inhabited α:=⟨x0⟩
   exact choose_lt each
  have hxl:((List.range len).map V).length=len:=(by simp);refine ⟨some a,(List.range len).map V,mm,by rw [hxl],fun _=>?_,fun x hx=>?_,by omega,?_⟩
  ·have hcell:∀ i j,i < len→j < m→W.cell? (a.add (i * m+j))=(cells (V i))[j]?:=fun i j hil hj=>by
    obtain ⟨_,_,hat⟩:=World.cells?_some (hV i hil).1;rw [← Go.Deep.add_add]; exact hat j hj
   obtain ⟨b,off,spot⟩:=a;have hc0:=hcell 0 0 hpos h0;rw [List.getElem?_eq_getElem (by rw [hm]; exact h0)] at hc0;have hspot:spot=none:=(by simpa [Addr.add] using World.cell?_spot hc0);subst hspot;refine ⟨b,off,rfl,?_,fun i v hv=>?_⟩
   ·have:=lt_of_cell hc0;simpa [Addr.add] using this
   ·have hil:i < len * m:=by
     have h3:=(List.getElem?_eq_some_iff.1 hv).1
     have h4:∀ (l:List α),(l.flatMap cells).length=l.length * m:=fun l=>by
      induction l with
      | nil=>simp
      | cons x t ih=>rw [List.flatMap_cons,List.length_append,ih,hm,List.length_cons,Nat.succ_mul,Nat.add_comm]
     rwa [h4,hxl] at h3
    have hd:i / m < len:=(Nat.div_lt_iff_lt_mul h0).2 hil;have hr:i % m < m:=Nat.mod_lt _ h0;have hi2:i / m * m+i % m=i:=(by rw [Nat.mul_comm]; exact Nat.div_add_mod i m);have h5:=flatN hm ((List.range len).map V) (i / m) (i % m) (by rw [hxl]; exact hd) hr;rw [hi2,hv] at h5;have h6:=hcell (i / m) (i % m) hd hr;rw [hi2,add_plain] at h6;rw [h6,h5];simp
  ·obtain ⟨i,hi1,rfl⟩:=List.mem_map.1 hx;exact (hV i (List.mem_range.1 hi1)).2
  ·rw [hxl];have:reachBytes=140737488351232:=rfl;omega
end
section
variable {H:Type} {enc:TypeId × Value→H}
end
end Go.Proofs.YtcpofeehpijbcaaGreatDoor
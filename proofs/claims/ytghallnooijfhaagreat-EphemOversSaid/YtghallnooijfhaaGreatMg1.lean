import Derived.Test.YtghallnooijfhaaGreatRows
import Derived.Test.YtghallnooijfhaaGreatMem
import Derived.ProofKit
import Derived.SizedLaws
import Derived.Below
import Derived.ChangeSame
import Derived.OpenShut
import Derived.Lib.SmallJoins
import Derived.Deep.Strs
set_option maxRecDepth 100000
namespace Go.Proofs.YtghallnooijfhaaGreat
open Go.ChangeShapes Go.WideShapes Go.ChangeAt Go.RowKit Go.Joins
section
variable {H:Type} {enc:TypeId × Value→H}
theorem trodAll_stays {P:Program} (hl:laidOutB P=true) {W W':World} (hb:Below W.heap.size W W'):∀ {ts:List TypeId} {vs:List Value} {ds:List (DataW H)} {ps:List MemPlace},
  (∀ t∈ts,P.readableRec t=true∧t < P.types.size)→DataW.TrodAll enc P W 0 (fun _=>true) true ts vs ds ps→(∀ x∈ps,x.block < W.heap.size)→∀ (sp:Nat→Bool),(∀ p∈ps,sp p.block=true)→DataW.TrodAll enc P W' 0 sp true ts vs ds ps
 | [],vs,ds,ps,_,h,_,sp,_=>by
  obtain ⟨rfl,rfl,rfl⟩:=trodAll_nil h;exact trodAll_mk0
 | t :: ts,vs,ds,ps,hr,h,hlt,sp,hs=>by
  obtain ⟨v,vs',d,ds',p,q,rfl,rfl,rfl,hd,hrest⟩:=trodAll_cons h;refine trodAll_cons_mk ?_ ?_
  ·exact WideElems.Trod_stays hl (hr t (by simp)).1 (hr t (by simp)).2 hd (fun x hx=>hb.same (hlt x (by simp [hx]))) (fun x hx=>hs x (by simp [hx]))
  ·exact trodAll_stays hl hb (fun t' ht=>hr t' (by simp [ht])) hrest (fun x hx=>hlt x (by simp [hx])) sp (fun x hx=>hs x (by simp [hx]))
theorem law_post {P:Program} {f:Func} {s:ChangeSpec} {apart fresh handsOn again:Bool} {W W':World} {args:Array Value} {ds gs:List (DataW H)} {before:List MemPlace} {tb:TypeId}
  (hl:laidOutB P=true) (hr:∀ t∈f.params.toList,P.readableRec t=true∧t < P.types.size) (hvars:s.vars=[]) (hrt:f.resultTypes=#[tb]) (ht:P.underlying tb=some .bool)
  (hW:DataW.Whole enc P f.params.toList s.vars apart W args.toList ds gs before)
  (hfn:(s.fn H (ds ++ gs)).results=[.lit (.bool true)]∧(s.fn H (ds ++ gs)).args=ds∧(s.fn H (ds ++ gs)).vars=[])
  (hb:Below W.heap.size W W'):s.post enc P f apart fresh handsOn again W args (.bool true) W':=by
 have hlt:∀ p∈before,p.block < W.heap.size:=fun p hp=>hW.lt p hp;have hold:∀ p∈before,(fun b=>decide (b < W.heap.size)) p.block=true:=fun p hp=>by simpa using hlt p hp
 have hW0:=hW;obtain ⟨p,q,hA,hV,rfl,hz,hn⟩:=hW0;have hV0:=hV;rw [hvars] at hV;obtain ⟨rfl,rfl⟩:=trodVars_none hV;rw [List.append_nil] at hW hlt hold hz hn
 have hres:∀ (b:Nat) (sp:Nat→Bool) (hd:Bool),DataW.TrodAll enc P W' b sp hd f.resultTypes.toList ((Value.bool true).resultList f.resultTypes.size) (s.fn H (ds ++ [])).results []:=fun b sp hd=>by
  rw [hfn.1,hrt];exact trodAll_mk1 (shut_bool ht true)
 have hargs:∀ sp:Nat→Bool,(∀ x∈p,sp x.block=true)→DataW.TrodAll enc P W' 0 sp true f.params.toList args.toList (s.fn H (ds ++ [])).args p:=fun sp hsp=>by
  rw [hfn.2.1];exact trodAll_stays hl hb hr hA hlt sp hsp
 have hvs:∀ sp:Nat→Bool,DataW.TrodVars enc P W' sp s.vars (s.fn H (ds ++ [])).vars []:=fun sp=>by
  rw [hvars,hfn.2.2]; rfl
 refine ⟨ds,[],p,[],p,[],hW,hres _ _ _,hargs _ hold,hvs _,World.keptBut_mono (fun x hx=>⟨hx,?_⟩) (hb.frame (· ∈ p)),fun _=>?_⟩
 ·exact .inr (by simpa using hx)
 ·refine ⟨?_,_,_,([] ++ p) ++ [],⟨[] ++ p,[],trodAll_append (hargs _ (fun _ _=>rfl)) (hres _ _ _),hvs _,rfl,?_,?_⟩,?_⟩
  ·intro j t r hj hr';rw [hrt] at hj hr'
   match j,hj,hr' with
   | 0,hj,hr'=>
    simp at hj;subst hj;simp [Value.resultList] at hr';subst hr';exact okWide_bool_mk ht true
  ·intro b off hp;have hin:MemPlace.cell b off∈p:=(by simpa using hp);rw [hb.frozen (hlt _ hin)];exact hz b off hin
  ·intro ha;have:=hn ha;simpa using this
  ·intro x hx _;simpa using hx
end
end Go.Proofs.YtghallnooijfhaaGreat
namespace Go.Proofs.YtghallnooijfhaaGreat
open Go.RowKit
def BlkV (w:World) (g:Nat) (t:TypeId) (cs:Array Value):Prop:=w.heap[g]? = some (.cells cs t (0,0))
section
variable {w w' w1:World} {g g':Nat} {t t':TypeId} {cs cs':Array Value}
theorem BlkV.lt (h:BlkV w g t cs):g < w.heap.size:=lt_of_block h
theorem BlkV.cell (h:BlkV w g t cs) (i:Nat):w.cell? ⟨g,i,none⟩=cs[i]?:=cell_of_row w g i cs t (0,0) h
theorem BlkV.at_ (h:BlkV w g t cs) (i:Nat) {v:Value} (hv:cs[i]? = some v):w.cell? ⟨g,i,none⟩=some v:=(h.cell i).trans hv
theorem BlkV.frozen (h:BlkV w g t cs) (i:Nat):w.frozen? ⟨g,i,none⟩=false:=by
 unfold BlkV at h;simp [World.frozen?,h]
theorem BlkV.fresh (hg:g=w.heap.size) (t:TypeId) (cs:Array Value):BlkV (w.alloc (.cells cs t)) g t cs:=by subst hg; exact heap_alloc_new w _
theorem BlkV.drew (h:BlkV w g t cs):BlkV w.drew g t cs:=h
theorem BlkV.alloc (h:BlkV w g t cs) (o:Obj):BlkV (w.alloc o) g t cs:=(Below.heap_alloc w o g h.lt).trans h
theorem BlkV.set_ (h:BlkV w g t cs) (i:Nat) (u:Value):BlkV (w.setCell ⟨g,i,none⟩ u) g t (cs.setIfInBounds i u):=by
 unfold BlkV at h ⊢;simp [World.setCell,Array.getElem?_modify,h]
theorem BlkV.put (h:BlkV w g t cs) (i:Nat) (u:Value) (he:cs.setIfInBounds i u=cs'):BlkV (w.setCell ⟨g,i,none⟩ u) g t cs':=he ▸ h.set_ i u
theorem BlkV.far (h:BlkV w g t cs) {p:Addr} (hp:g≠p.block) (u:Value):BlkV (w.setCell p u) g t cs:=(Below.heap_setCell w p u g hp).trans h
theorem BlkV.keep (h:BlkV w g t cs) (hb:Below w.heap.size w w'):BlkV w' g t cs:=(hb.block g h.lt).trans h
theorem BlkV.below {B:Nat} (h:BlkV w g t cs) (hb:Below B w w') (hg:g < B):BlkV w' g t cs:=(hb.block g hg).trans h
end
def RdV (w:World) (B:Nat) (A:Option Addr) (vs:List Value):Prop:=
 0 < vs.length→∃ b o,A=some ⟨b,o,none⟩∧b < B∧∀ i v,vs[i]? = some v→w.cell? ⟨b,o+i,none⟩=some v
section
variable {w w':World} {B B':Nat} {A:Option Addr} {vs:List Value}
theorem RdV.below (h:RdV w B A vs) (hb:Below w.heap.size w w'):RdV w' B A vs:=fun hl=>by
 obtain ⟨b,o,e,hB,hc⟩:=h hl;exact ⟨b,o,e,hB,fun i v hv=>q0b hb (hc i v hv)⟩
theorem RdV.nil (w:World) (B:Nat) (A:Option Addr):RdV w B A []:=fun h=>by simp at h
theorem RdV.at_ (h:RdV w B A vs) {k:Nat} (hk:k < vs.length):∃ b o,A=some ⟨b,o,none⟩∧b < B∧w.cell? ⟨b,o+k,none⟩=some (vs[k]'hk):=by
 obtain ⟨b,o,e,hB,hc⟩:=h (by omega);exact ⟨b,o,e,hB,hc k _ (List.getElem?_eq_getElem hk)⟩
end
def cI (l:List Int):List Value:=l.map (Value.int .i64)
theorem cI_length (l:List Int):(cI l).length=l.length:=by simp [cI]
theorem cI_get {l:List Int} {i:Nat} (hi:i < l.length):(cI l)[i]? = some (.int .i64 (l[i]'hi)):=by simp [cI,List.getElem?_eq_getElem hi]
def In64 (l:List Int):Prop:=∀ x∈l,-9223372036854775808≤x∧x≤9223372036854775807
theorem In64.at_ {l:List Int} (h:In64 l) {k:Nat} (hk:k < l.length) : -9223372036854775808≤l[k]'hk∧l[k]'hk≤9223372036854775807:=h _ (List.getElem_mem hk)
structure SlI (w:World) (B:Nat) (A:Option Addr) (l:List Int) (c:Nat):Prop where
 rd:RdV w B A (cI l)
 lim:In64 l
 le:l.length≤c
 len:l.length≤17592186044416
section
variable {w w':World} {B B':Nat} {A:Option Addr} {l:List Int} {c:Nat}
theorem SlI.below (h:SlI w B A l c) (hb:Below w.heap.size w w'):SlI w' B A l c:=⟨h.rd.below hb,h.lim,h.le,h.len⟩
theorem SlI.nil (w:World) (B:Nat) (A:Option Addr) (c:Nat):SlI w B A [] c:=⟨RdV.nil _ _ _,(fun x h=>by cases h),Nat.zero_le _,Nat.zero_le _⟩
theorem SlI.at_ (h:SlI w B A l c) {k:Nat} (hk:k < l.length):∃ b o,A=some ⟨b,o,none⟩∧b < B∧w.cell? ⟨b,o+k,none⟩=some (.int .i64 (l[k]'hk)):=by
 obtain ⟨b,o,e,hB,hc⟩:=h.rd.at_ (k:=k) (by rw [cI_length]; exact hk);exact ⟨b,o,e,hB,hc.trans (by simp [cI])⟩
end
theorem Sl.setV {w:World} {A:Option Addr} {l:List Nat} {c:Nat} (h:Sl w A l c) {p:Addr} {v:Value} (q:w.cell? p=some v) (hv:∀ n:Int,v≠.int .u32 n) (u:Value):Sl (w.setCell p u) A l c:=by
 refine ⟨fun hl=>?_,h.lim,h.le,h.len⟩;obtain ⟨b,o,e,hc⟩:=h.rd hl;refine ⟨b,o,e,fun i hi=>?_⟩;rw [World.cell?_setCell_other _ _ _ _ (fun e2=>?_)]
 ·exact hc i hi
 ·have h1:=hc i hi;rw [← e2,q] at h1;cases h1
  exact hv _ rfl
section
variable {w w':World} {base:Nat} {e:TypeId} {v:Value} {vs:List Value} {A:Option Addr} {c:Nat}
end
section
variable {w w' w1:World} {base:Nat} {e e':TypeId} {v v':Value} {vs vs':List Value} {row:Option Nat}
end
end Go.Proofs.YtghallnooijfhaaGreat
namespace Go.Proofs.YtghallnooijfhaaGreat
open Go.ChangeShapes Go.WideShapes Go.ChangeAt Go.RowKit Go.Joins
theorem cells_i64:Tryz.prog.cellsOf 2 = 1:=by kernel_rfl
theorem bytes_i64:Tryz.prog.bytesOf 2 = 8:=by kernel_rfl
section
variable {H:Type} {enc:TypeId × Value→H}
theorem open_i64s {W:World} {v:Value} {y:DataW H × List MemPlace} {m:Nat}
  (h:DataW.trod enc Tryz.prog W 0 (fun _=>true) true m 41 [v]=some y)
  (hw:∀ n∈DataW.weights Tryz.prog 41 y.1,n≤reachBytes) :
  ∃ (A:Option Addr) (l:List Int) (c:Nat),v=.slice A l.length c∧SlI W W.heap.size A l c:=by
 rcases open_ints Tryz.underlying41 Tryz.underlying2 cells_i64 h with ⟨e1,_⟩ | ⟨a,len,cap,zs,e1,_,hl,hm,hz,hx,hcell,hwf⟩
 ·simp only [List.cons.injEq,and_true] at e1;subst e1;exact ⟨none,[],0,rfl,SlI.nil _ _ _ _⟩
 ·simp only [List.cons.injEq,and_true] at e1;subst e1;simp only [if_true] at hz
  have hlen:len * 8≤reachBytes:=by
   have:=hw ((zs.take len).length * 8+(zs.drop len).length * 8) (by
    rw [hx];simp [DataW.weights,Tryz.underlying41,bytes_i64,lits,← Nat.add_mul])
   rw [List.length_take,List.length_drop] at this;omega
  have hl2:(zs.take len).length=len:=(by simp; omega);refine ⟨some a,zs.take len,cap,by rw [hl2],⟨fun hp=>?_,fun x hx=>?_,by omega,by have:reachBytes=140737488351232:=rfl; omega⟩⟩
  ·rw [cI_length,hl2] at hp;obtain ⟨b,off,spot⟩:=a;have hspot:spot=none:=(by simpa [Addr.add] using World.cell?_spot (hcell 0 (by omega)));subst hspot
   have hc:∀ i v,(cI (zs.take len))[i]? = some v→W.cell? ⟨b,off+i,none⟩=some v:=fun i v hv=>by
    have hi:i < len:=by
     have:=(List.getElem?_eq_some_iff.1 hv).1;rwa [cI_length,hl2] at this
    have h1:=hcell i (by omega);rw [add_plain] at h1;rw [h1,← hv];simp [cI,List.getElem?_take_of_lt hi,List.getElem?_eq_getElem (show i < zs.length by omega)]
   refine ⟨b,off,rfl,?_,hc⟩;have:=lt_of_cell (hc 0 _ (List.getElem?_eq_getElem (by rw [cI_length,hl2]; exact hp)));simpa using this
  ·exact bounds_i64 (hwf x (List.mem_of_mem_take hx))
end
end Go.Proofs.YtghallnooijfhaaGreat
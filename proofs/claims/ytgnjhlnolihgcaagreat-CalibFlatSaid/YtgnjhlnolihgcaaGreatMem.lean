import Derived.Test.YtgnjhlnolihgcaaGreatMath
import Derived.WalkKit
import Derived.Laws.OwnMore
import Derived.Deep.Draws
import Derived.Laws.Rows
import Derived.Lib.Hide
import Derived.Maps.AppendAt
import Derived.Deep.AppendLies
import Derived.OwnWalk
import Derived.Laws.MakeOwn
import Derived.Laws.CopyOwn
namespace Go.Proofs.YtgnjhlnolihgcaaGreat
open Go.RowKit
def Rd (w:World) (A:Option Addr) (l:List Nat):Prop:=
 0 < l.length→∃ b o,A=some ⟨b,o,none⟩∧∀ i,i < l.length→w.cell? ⟨b,o+i,none⟩=some (.int .u32 (l[i]?.getD 0:Nat))
theorem lt_of_cell {w:World} {a:Addr} {v:Value} (h:w.cell? a=some v):a.block < w.heap.size:=by
 unfold World.cell? at h;rcases Nat.lt_or_ge a.block w.heap.size with hl | hl
 ·exact hl
 ·rw [Array.getElem?_eq_none hl] at h; cases h
theorem q0b {w w':World} (hb:Below w.heap.size w w') {a:Addr} {v:Value} (h:w.cell? a=some v):w'.cell? a=some v:=(hb.cell (lt_of_cell h)).trans h
theorem Rd.below {w w':World} {A:Option Addr} {l:List Nat} (h:Rd w A l) (hb:Below w.heap.size w w'):Rd w' A l:=fun hl=>by
 obtain ⟨b,o,e,hc⟩:=h hl;exact ⟨b,o,e,fun i hi=>q0b hb (hc i hi)⟩
theorem Rd.alloc {w:World} {A:Option Addr} {l:List Nat} (h:Rd w A l) (o:Obj):Rd (w.alloc o) A l:=h.below ((Below.refl _ w).alloc (Nat.le_refl _) o)
theorem Rd.drew {w:World} {A:Option Addr} {l:List Nat} (h:Rd w A l):Rd w.drew A l:=h
theorem Rd.nil (w:World) (A:Option Addr):Rd w A []:=fun h=>by simp at h
theorem Rd.take {w:World} {A:Option Addr} {l:List Nat} (h:Rd w A l) (n:Nat):Rd w A (l.take n):=fun hl=>by
 have hn:0 < l.length:=(by rw [List.length_take] at hl; omega);obtain ⟨b,o,e,hc⟩:=h hn;refine ⟨b,o,e,fun i hi=>?_⟩;rw [List.length_take] at hi;rw [List.getElem?_take_of_lt (by omega)];exact hc i (by omega)
theorem Rd.at_ {w:World} {A:Option Addr} {l:List Nat} (h:Rd w A l) {k:Nat} (hk:k < l.length):∃ b o,A=some ⟨b,o,none⟩∧w.cell? ⟨b,o+k,none⟩=some (.int .u32 (l[k]?.getD 0:Nat)):=by
 obtain ⟨b,o,e,hc⟩:=h (by omega);exact ⟨b,o,e,hc k hk⟩
structure Sl (w:World) (A:Option Addr) (l:List Nat) (c:Nat):Prop where
 rd:Rd w A l
 lim:Lim l
 le:l.length≤c
 len:l.length≤35184372088832
theorem Sl.below {w w':World} {A:Option Addr} {l:List Nat} {c:Nat} (h:Sl w A l c) (hb:Below w.heap.size w w'):Sl w' A l c:=⟨h.rd.below hb,h.lim,h.le,h.len⟩
theorem Sl.alloc {w:World} {A:Option Addr} {l:List Nat} {c:Nat} (h:Sl w A l c) (o:Obj):Sl (w.alloc o) A l c:=⟨h.rd.alloc o,h.lim,h.le,h.len⟩
theorem Sl.drew {w:World} {A:Option Addr} {l:List Nat} {c:Nat} (h:Sl w A l c):Sl w.drew A l c:=⟨h.rd,h.lim,h.le,h.len⟩
theorem Sl.nil (w:World) (A:Option Addr) (c:Nat):Sl w A [] c:=⟨Rd.nil _ _,lim_nil,Nat.zero_le _,Nat.zero_le _⟩
def Blk (w:World) (g:Nat) (t:TypeId) (l:List Nat):Prop:=w.heap[g]? = some (.cells (l.map fun x=>Value.int .u32 (x:Nat)).toArray t (0,0))
section
variable {w w':World} {g:Nat} {t:TypeId} {l:List Nat}
theorem Blk.lt (h:Blk w g t l):g < w.heap.size:=lt_of_block h
theorem Blk.cell (h:Blk w g t l) {i:Nat} (hi:i < l.length):w.cell? ⟨g,i,none⟩=some (.int .u32 (l[i]?.getD 0:Nat)):=by
 rw [cell_of_row w g i _ t (0,0) h];simp [List.getElem?_eq_getElem hi]
theorem Blk.frozen (h:Blk w g t l) (i:Nat):w.frozen? ⟨g,i,none⟩=false:=by
 unfold Blk at h;simp [World.frozen?,h]
theorem Blk.rd (h:Blk w g t l):Rd w (some ⟨g,0,none⟩) l:=fun _=>⟨g,0,rfl,fun i hi=>by rw [Nat.zero_add]; exact h.cell hi⟩
theorem Blk.drew (h:Blk w g t l):Blk w.drew g t l:=h
theorem Blk.drewN (h:Blk w g t l) (n:Nat):Blk (w.drewN n) g t l:=h
theorem Blk.alloc (h:Blk w g t l) (o:Obj):Blk (w.alloc o) g t l:=(Below.heap_alloc w o g h.lt).trans h
theorem Blk.set_ (h:Blk w g t l) (i x:Nat):Blk (w.setCell ⟨g,i,none⟩ (.int .u32 (x:Nat))) g t (l.set i x):=by
 unfold Blk at h ⊢;simp [World.setCell,Array.getElem?_modify,h,List.map_set]
theorem Blk.far (h:Blk w g t l) {p:Addr} (hp:g≠p.block) (u:Value):Blk (w.setCell p u) g t l:=(Below.heap_setCell w p u g hp).trans h
theorem Blk.below {B:Nat} (h:Blk w g t l) (hb:Below B w w') (hg:g < B):Blk w' g t l:=(hb.block g hg).trans h
theorem Blk.new0 (w:World) (t:TypeId) (n:Nat):Blk (w.alloc (.cells (Array.replicate n (.int .u32 0)) t)) w.heap.size t (List.replicate n 0):=by
 unfold Blk;rw [heap_alloc_new];simp [List.map_replicate]
theorem Blk.new (w:World) (t:TypeId) (l:List Nat):Blk (w.alloc (.cells (l.map fun x=>Value.int .u32 (x:Nat)).toArray t)) w.heap.size t l:=heap_alloc_new w _
end
theorem below_drewN {B:Nat} {a w:World} (h:Below B a w) (n:Nat):Below B a (w.drewN n):=⟨h.os,h.tape,h.output,h.size,h.block⟩
theorem q0a {w w1 w2:World} (h:Below w.heap.size w w1) (k:Below w1.heap.size w1 w2):Below w.heap.size w w2:=h.trans (k.mono h.size)
def cs32 (l:List Nat):List Value:=l.map fun x=>Value.int .u32 (x:Nat)
theorem cs32_length (l:List Nat):(cs32 l).length=l.length:=by simp [cs32]
theorem cs32_get {l:List Nat} {i:Nat} (hi:i < l.length):(cs32 l)[i]? = some (.int .u32 (l[i]?.getD 0:Nat)):=by simp [cs32,List.getElem?_eq_getElem hi]
def Ow (w:World) (base:Nat) (e:TypeId) (v:Value) (l:List Nat):Prop:=w.ownsRow base e 1 v l.length (cs32 l)
section
variable {w w':World} {base:Nat} {e:TypeId} {v:Value} {l:List Nat} {A:Option Addr} {c:Nat}
theorem Ow.rd (h:Ow w base e (.slice A l.length c) l):Rd w A l:=fun hl=>by
 obtain ⟨g,cap,hv,_,_⟩:=World.ownsRow.form h hl;simp only [Value.slice.injEq] at hv;obtain ⟨rfl,_,rfl⟩:=hv;refine ⟨g,0,rfl,fun i hi=>?_⟩;rw [Nat.zero_add,World.ownsRow.cellAt h i (by omega),cs32_get hi]
theorem Ow.le (h:Ow w base e (.slice A l.length c) l):l.length≤c:=by
 rcases h.2 with ⟨hv,h0⟩ | ⟨g,cap,cur,hv,_,_,hle,_⟩
 ·omega
 ·simp only [Value.slice.injEq] at hv;omega
theorem Ow.sl (h:Ow w base e (.slice A l.length c) l) (hl:Lim l) (hn:l.length≤35184372088832):Sl w A l c:=⟨h.rd,hl,h.le,hn⟩
theorem Ow.alloc (h:Ow w base e v l) (o:Obj):Ow (w.alloc o) base e v l:=World.ownsRow.alloc h o
theorem Ow.nil0 (w:World) (base:Nat) (e:TypeId):Ow w base e (.slice none 0 0) []:=World.ownsRow_nil w base e 1
theorem Ow.mono {b:Nat} (h:Ow w base e v l) (hb:b≤base):Ow w b e v l:=by
 refine ⟨h.1,?_⟩;rcases h.2 with h2 | ⟨g,cap,cur,hv,hg,r⟩
 ·exact .inl h2
 ·exact .inr ⟨g,cap,cur,hv,by omega,r⟩
theorem Ow.below {B:Nat} (h:Ow w base e v l) (hb:Below B w w') (hB:w.heap.size≤B):Ow w' base e v l:=by
 refine ⟨h.1,?_⟩;rcases h.2 with h2 | ⟨g,cap,cur,hv,hg,hh,r⟩
 ·exact .inl h2
 ·exact .inr ⟨g,cap,cur,hv,hg,(hb.block g (by have:=lt_of_block hh; omega)).trans hh,r⟩
theorem Blk.ow {g:Nat} (h:Blk w g e l) (hg:base≤g) (hm:l.length≤maxLen):Ow w base e (.slice (some ⟨g,0,none⟩) l.length l.length) l:=
 ⟨by simp [cs32],.inr ⟨g,l.length,_,rfl,hg,h,Nat.le_refl _,hm,by simp,by simp [cs32,← List.map_take]⟩⟩
theorem Ow.empty (w:World) (base:Nat) (e:TypeId) (hb:base≤w.heap.size):Ow (w.alloc (.cells #[] e)) base e (.slice (some ⟨w.heap.size,0,none⟩) 0 0) []:=
 (Blk.new w e []).ow hb (by simp)
theorem Rd.one (w:World) (x:Nat) (e:TypeId):Rd (w.alloc (.cells #[.int .u32 (x:Nat)] e)) (some ⟨w.heap.size,0,none⟩) [x]:=
 (Blk.new w e [x]).rd
theorem Rd.two (w:World) (x y:Nat) (e:TypeId):Rd (w.alloc (.cells #[.int .u32 (x:Nat),.int .u32 (y:Nat)] e)) (some ⟨w.heap.size,0,none⟩) [x,y]:=
 (Blk.new w e [x,y]).rd
theorem Rd.news {ad:Addr} (h:Rd w (some ad) l):∀ j u,(cs32 l)[j]? = some u→w.cell? (ad.add j)=some u:=by
 intro j u hu
 have hj:j < l.length:=by
  rcases Nat.lt_or_ge j l.length with hj | hj
  ·exact hj
  ·rw [List.getElem?_eq_none (by simpa [cs32] using hj)] at hu; cases hu
 obtain ⟨b,o,e,hc⟩:=h (by omega);cases e
 rw [cs32_get hj] at hu;cases hu
 have:=hc j hj;unfold Addr.add;split
 ·next h0=>subst h0; exact this
 ·exact this
theorem cs32_one:∀ u∈cs32 l,u.oneCell'=true:=by
 intro u hu;simp only [cs32,List.mem_map] at hu;obtain ⟨x,_,rfl⟩:=hu;rfl
end
theorem run_app {P:Program} (w:World) (base:Nat) (t ty e:TypeId) (i:TypeInfo) (ht:P.underlying t=some (.slice e)) (hi:P.info? e=some i) (hz:i.zero=some (.int .u32 0))
  (hsize:i.size=1) (hby:i.bytes=4) (v:Value) (l:List Nat) (hown:Ow w base e v l) (A2:Option Addr) (l2:List Nat) (c2:Nat) (hr:Rd w A2 l2)
  (h63:l.length+l2.length≤35184372088832) (hbase:base≤w.heap.size) :
  ∃ A' c' w',(Builtin.append_ #[t,t] ty #[v,.slice A2 l2.length c2]).run P w=.ok (.slice A' (l ++ l2).length c') w'∧Ow w' base e (.slice A' (l ++ l2).length c') (l ++ l2) ∧
   w.grownBy w' v.ownBlock∧((Value.slice A' (l ++ l2).length c').ownBlock=v.ownBlock∨(Value.slice A' (l ++ l2).length c').ownBlock=some w.heap.size):=by
 have form:∀ {W:World} {v':Value} {L:List Nat},Ow W base e v' L→∃ A' c',v'=.slice A' L.length c':=by
  intro W v' L h;rcases h.2 with ⟨rfl,h0⟩ | ⟨g,cap,cur,rfl,_⟩
  ·exact ⟨none,0,by rw [h0]⟩
  ·exact ⟨_,_,rfl⟩
 rcases A2 with _ | ad
 ·have hl:l2=[]:=by
   rcases l2 with _ | ⟨x,t⟩
   ·rfl
   ·obtain ⟨_,_,h,_⟩:=hr (by simp);cases h
  subst hl;obtain ⟨A',c',rfl⟩:=form hown;refine ⟨A',c',w,?_,by simpa using hown,World.grownBy.refl w _,.inl (by simp)⟩;simp only [List.append_nil,List.length_nil];rcases hown.2 with ⟨hv,h0⟩ | ⟨g,cap,cur,hv,_,_,hnc,_⟩
  ·rw [hv]; simp [Builtin.append_,run_underlying ht,sizeOf,typeInfo,hi,Builtin.lenOf,Builtin.firstCells]
  ·rw [hv]; simp [Builtin.append_,run_underlying ht,sizeOf,typeInfo,hi,Builtin.lenOf,Builtin.firstCells,hnc,storeCells]
 ·obtain ⟨v',w',hrun,hown',hg,_,hat⟩:=run_append_own_at (P:=P) w base t ty e i (.int .u32 0) 1 4 ht hi hz hsize hby rfl (by omega) v l.length (cs32 l) hown ad l2.length c2 (cs32 l2) (by simp [cs32]) hr.news cs32_one (by unfold maxLen; omega) (by omega) hbase
  have hown2:Ow w' base e v' (l ++ l2):=by
   unfold Ow;rw [List.length_append];simpa [cs32] using hown'
  obtain ⟨A',c',rfl⟩:=form hown2;exact ⟨A',c',w',hrun,hown2,hg,hat⟩
theorem wpList_app {P:Program} {w:World} {ops:Array Oper} {rest:List Oper} {o:Oper} {a:Act} {Q:Exit→Act→World→Prop} (hgd:o.guard=none) (s x:Operand) (t:TypeId)
  (ho:o.op=.call { callee:=.builtin .append,args:=#[s,x],argTypes:=#[t,t] })
  (base:Nat) (e:TypeId) (i:TypeInfo) (ht:P.underlying t=some (.slice e)) (hi:P.info? e=some i) (hz:i.zero=some (.int .u32 0)) (hsize:i.size=1) (hby:i.bytes=4)
  (v:Value) (l:List Nat) (hs:a.eval s=v) (hown:Ow w base e v l) (A2:Option Addr) (n2:Nat) (l2:List Nat) (c2:Nat) (hx:a.eval x=.slice A2 n2 c2) (hn2:l2.length=n2) (hr:Rd w A2 l2)
  (h63:l.length+l2.length≤35184372088832) (hbase:base≤w.heap.size)
  (h:∀ A' c' w',Ow w' base e (.slice A' (l ++ l2).length c') (l ++ l2)→w.grownBy w' v.ownBlock →
   ((Value.slice A' (l ++ l2).length c').ownBlock=v.ownBlock∨(Value.slice A' (l ++ l2).length c').ownBlock=some w.heap.size)→wpList P ops Q rest (a.put o.dst (.slice A' (l ++ l2).length c')) w') :
  wpList P ops Q (o :: rest) a w:=by
 subst hn2;refine wpList_plain hgd fun K hK=>?_;obtain ⟨A',c',w',hrun,h2,h3,h4⟩:=run_app (P:=P) w base t o.type e i ht hi hz hsize hby v l hown A2 l2 c2 hr h63 hbase;unfold Oper.wp execOp;simp only [ho,resolve,invoke,builtin,Sem.run_bind,Sem.run_pure,Result.andThen_ok,List.map_toArray,List.map_cons,List.map_nil,hs,hx,hrun];exact hK _ _ (h A' c' w' h2 h3 h4)
theorem wpList_clone {P:Program} {w:World} {ops:Array Oper} {rest:List Oper} {o:Oper} {a:Act} {Q:Exit→Act→World→Prop} (hgd:o.guard=none) (s x:Operand) (t:TypeId)
  (ho:o.op=.call { callee:=.builtin .append,args:=#[s,x],argTypes:=#[t,t] })
  (e:TypeId) (i:TypeInfo) (ht:P.underlying t=some (.slice e)) (hi:P.info? e=some i) (hz:i.zero=some (.int .u32 0)) (hsize:i.size=1) (hby:i.bytes=4)
  (hs:a.eval s=.slice (some ⟨w.heap.size,0,none⟩) 0 0) (A2:Option Addr) (n2:Nat) (l2:List Nat) (c2:Nat) (hx:a.eval x=.slice A2 n2 c2) (hn2:l2.length=n2) (hr:Rd w A2 l2)
  (h63:l2.length≤35184372088832)
  (h:∀ A' c' w',Ow w' w.heap.size e (.slice A' l2.length c') l2→Below w.heap.size w w'→wpList P ops Q rest (a.put o.dst (.slice A' n2 c')) w') :
  wpList P ops Q (o :: rest) a (w.alloc (.cells #[] e)):=by
 refine wpList_app hgd s x t ho w.heap.size e i ht hi hz hsize hby _ [] hs (Ow.empty w _ _ (Nat.le_refl _)) A2 n2 l2 c2 hx hn2 (hr.alloc _) (by simpa using h63) (by simp) ?_;intro A' c' w1 hown hgrow _;simp only [List.nil_append] at hown hgrow ⊢;subst hn2;exact h A' c' w1 hown (((Below.refl _ w).alloc (Nat.le_refl _) _).grown hgrow (by simp) (fun k e=>by cases e; exact Nat.le_refl _))
theorem Ow.own {w:World} {base:Nat} {e:TypeId} {v:Value} {l:List Nat} (h:Ow w base e v l):∀ k,v.ownBlock=some k→base≤k:=fun k hk=>(World.ownsRow.lt h k hk).1
def WRes (r:(Bool × List Nat) × Int) (w:World):Ending→World→Prop:=fun e w'=>
 ∃ A c,e=.returned (.tuple #[.agg #[.bool r.1.1,.slice A r.1.2.length c],.int .i64 r.2])∧Sl w' A r.1.2 c∧Below w.heap.size w w'
def WRes1 (r:Bool × List Nat) (w:World):Ending→World→Prop:=fun e w'=>
 ∃ A c,e=.returned (.agg #[.bool r.1,.slice A r.2.length c])∧Sl w' A r.2 c∧Below w.heap.size w w'
theorem blw1 (w:World) (o:Obj):Below w.heap.size w (w.alloc o):=(Below.refl _ _).alloc (Nat.le_refl _) _
theorem blw2 (w:World) (o o2:Obj):Below w.heap.size w ((w.alloc o).alloc o2):=(blw1 w o).alloc (by simp) _
theorem blw3 (w:World) (o o2 o3:Obj):Below w.heap.size w (((w.alloc o).alloc o2).alloc o3):=(blw2 w o o2).alloc (by simp; omega) _
theorem blw4 (w:World) (o o2 o3 o4:Obj):Below w.heap.size w ((((w.alloc o).alloc o2).alloc o3).alloc o4):=(blw3 w o o2 o3).alloc (by simp; omega) _
theorem Rd.set {w:World} {A:Option Addr} {l:List Nat} (h:Rd w A l) {p:Addr} {v:Value} (hp:w.cell? p=some v) (hv:∀ n,v≠.int .u32 n) (u:Value):Rd (w.setCell p u) A l:=fun hl=>by
 obtain ⟨b,o,e,hc⟩:=h hl;refine ⟨b,o,e,fun i hi=>?_⟩;have h1:=hc i hi;rw [World.cell?_setCell_other w p ⟨b,o+i,none⟩ u (fun e=>by subst e; rw [h1] at hp; cases hp; exact hv _ rfl)];exact h1
theorem Sl.set {w:World} {A:Option Addr} {l:List Nat} {c:Nat} (h:Sl w A l c) {p:Addr} {v:Value} (hp:w.cell? p=some v) (hv:∀ n,v≠.int .u32 n) (u:Value):Sl (w.setCell p u) A l c:=⟨h.rd.set hp hv u,h.lim,h.le,h.len⟩
theorem Sl.setW {w:World} {A:Option Addr} {l:List Nat} {c g:Nat} (h:Sl w A l c) {b:Bool} {A2:Option Addr} {n2 c2:Nat} (q0:w.cell? ⟨g,0,none⟩=some (.bool b)) (q1:w.cell? ⟨g,1,none⟩=some (.slice A2 n2 c2)) (x y:Value) :
  Sl ((w.setCell ⟨g,0,none⟩ x).setCell ⟨g,1,none⟩ y) A l c:=
 (h.set q0 (fun _ e=>by cases e) x).set (v:=.slice A2 n2 c2) (by rw [World.cell?_setCell_other _ _ _ _ (by simp)]; exact q1) (fun _ e=>by cases e) y
theorem q0c {B g:Nat} {a w:World} (h:Below B a w) (hg:B≤g) (x y:Value):Below B a ((w.setCell ⟨g,0,none⟩ x).setCell ⟨g,1,none⟩ y):=
 (h.setCell (p:=⟨g,0,none⟩) hg x).setCell (p:=⟨g,1,none⟩) hg y
end Go.Proofs.YtgnjhlnolihgcaaGreat
namespace Go.Proofs.YtgnjhlnolihgcaaGreat
open Go.RowKit
theorem q0y {w w':World} (hb:Below w.heap.size w w') {a:Addr} {v:Value} (h:w.cell? a=some v) (hf:w.frozen? a=false):w'.frozen? a=false:=(hb.frozen (lt_of_cell h)).trans hf
theorem q0d {w:World} {g h i:Nat} (hne:h≠g) (x y:Value):((w.setCell ⟨g,0,none⟩ x).setCell ⟨g,1,none⟩ y).cell? ⟨h,i,none⟩=w.cell? ⟨h,i,none⟩:=by
 rw [World.cell?_setCell_other _ _ _ _ (fun e=>hne (congrArg Addr.block e).symm),World.cell?_setCell_other _ _ _ _ (fun e=>hne (congrArg Addr.block e).symm)]
def Cw (w:World) (g:Nat) (n:Bool) (A:Option Addr) (m c:Nat):Prop:=w.cell? ⟨g,0,none⟩=some (.bool n)∧w.cell? ⟨g,1,none⟩=some (.slice A m c)
theorem Cw.keep {w w':World} {g:Nat} {n:Bool} {A:Option Addr} {m c:Nat} (h:Cw w g n A m c) (hb:Below w.heap.size w w'):Cw w' g n A m c:=⟨q0b hb h.1,q0b hb h.2⟩
theorem Cw.setW {w:World} {g g':Nat} {n:Bool} {A:Option Addr} {m c:Nat} (h:Cw w g n A m c) (hne:g≠g') (x y:Value):Cw ((w.setCell ⟨g',0,none⟩ x).setCell ⟨g',1,none⟩ y) g n A m c:=⟨(q0d hne x y).trans h.1,(q0d hne x y).trans h.2⟩
theorem Cw.drew {w:World} {g:Nat} {n:Bool} {A:Option Addr} {m c:Nat} (h:Cw w g n A m c):Cw w.drew g n A m c:=h
def Fw (w:World) (g:Nat):Prop:=w.frozen? ⟨g,0,none⟩=false∧w.frozen? ⟨g,1,none⟩=false
theorem Fw.drew {w:World} {g:Nat} (f:Fw w g):Fw w.drew g:=f
theorem Fw.keep {w w':World} {g:Nat} {n:Bool} {A:Option Addr} {m c:Nat} (f:Fw w g) (h:Cw w g n A m c) (hb:Below w.heap.size w w'):Fw w' g:=⟨q0y hb h.1 f.1,q0y hb h.2 f.2⟩
theorem q0m {r:(Bool × List Nat) × Int} {w w3:World} {g c2:Nat} {A2:Option Addr} {n:Bool} {A:Option Addr} {m c:Nat} (hs:Sl w3 A2 r.1.2 c2) (hr:Cw w3 g n A m c) (hb:Below w.heap.size w w3) (hg:w.heap.size≤g) (x y:Value) :
  WRes r w (.returned (.tuple #[.agg #[.bool r.1.1,.slice A2 r.1.2.length c2],.int .i64 r.2])) ((w3.setCell ⟨g,0,none⟩ x).setCell ⟨g,1,none⟩ y):=
 ⟨A2,c2,rfl,hs.setW hr.1 hr.2 _ _,q0c hb hg _ _⟩
theorem wres1_store {r:Bool × List Nat} {w w3:World} {g c2:Nat} {A2:Option Addr} {n:Bool} {A:Option Addr} {m c:Nat} (hs:Sl w3 A2 r.2 c2) (hr:Cw w3 g n A m c) (hb:Below w.heap.size w w3) (hg:w.heap.size≤g) (x y:Value) (o:Obj) :
  WRes1 r w (.returned (.agg #[.bool r.1,.slice A2 r.2.length c2])) (((w3.setCell ⟨g,0,none⟩ x).setCell ⟨g,1,none⟩ y).alloc o):=
 ⟨A2,c2,rfl,(hs.setW hr.1 hr.2 _ _).alloc _,(q0c hb hg _ _).alloc (by have:=hb.size; simp [World.setCell]; omega) _⟩
theorem Rd.two' {w:World} {b:Nat} (hb:b=w.heap.size) (x y:Nat) (e:TypeId):Rd (w.alloc (.cells #[.int .u32 (x:Nat),.int .u32 (y:Nat)] e)) (some ⟨b,0,none⟩) [x,y]:=hb ▸ Rd.two w x y e
theorem Ow.drew {w:World} {base:Nat} {e:TypeId} {v:Value} {l:List Nat} (h:Ow w base e v l):Ow w.drew base e v l:=h
theorem Cw.fresh {w:World} {g:Nat} (hg:g=w.heap.size) (n:Bool) (A:Option Addr) (m c:Nat) (t:TypeId):Cw (w.alloc (.cells #[.bool n,.slice A m c] t)) g n A m c:=by subst hg; exact ⟨by simp,by simp⟩
theorem keep4 {w w':World} (hb:Below w.heap.size w w') {a1 a2 a3 a4:Addr} {v1 v2 v3 v4:Value} (h:w.cell? a1=some v1∧w.cell? a2=some v2∧w.cell? a3=some v3∧w.cell? a4=some v4) :
  w'.cell? a1=some v1∧w'.cell? a2=some v2∧w'.cell? a3=some v3∧w'.cell? a4=some v4:=⟨q0b hb h.1,q0b hb h.2.1,q0b hb h.2.2.1,q0b hb h.2.2.2⟩
theorem keep6 {w w':World} (hb:Below w.heap.size w w') {a1 a2 a3 a4 a5 a6:Addr} {v1 v2 v3 v4 v5 v6:Value} (h:w.cell? a1=some v1∧w.cell? a2=some v2∧w.cell? a3=some v3∧w.cell? a4=some v4∧w.cell? a5=some v5∧w.cell? a6=some v6) :
  w'.cell? a1=some v1∧w'.cell? a2=some v2∧w'.cell? a3=some v3∧w'.cell? a4=some v4∧w'.cell? a5=some v5∧w'.cell? a6=some v6:=⟨q0b hb h.1,q0b hb h.2.1,q0b hb h.2.2.1,q0b hb h.2.2.2.1,q0b hb h.2.2.2.2.1,q0b hb h.2.2.2.2.2⟩
end Go.Proofs.YtgnjhlnolihgcaaGreat
namespace Go.Proofs.YtgnjhlnolihgcaaGreat
open Go.RowKit
def zrow (n:Nat):Array Value:=Array.replicate n (.int .u32 0)
theorem Blk.zrow (w:World) (t:TypeId) (n:Nat):Blk (w.alloc (.cells (zrow n) t)) w.heap.size t (List.replicate n 0):=Blk.new0 w t n
theorem q0n {P:Program} (t e:TypeId) (i:TypeInfo) (ht:P.underlying t=some (.slice e)) (hi:P.info? e=some i) (hz:i.zero=some (.int .u32 0)) (hsize:i.size=1) (hby:i.bytes=4)
  (L C:Int) (n c:Nat) (hL:L=n) (hC:C=c) (hnc:n≤c) (hb:c≤35184372088832) (w:World) :
  (Instr.makeSlice t (.int .i64 L) (.int .i64 C)).run P w=.ok (.slice (some ⟨w.heap.size,0,none⟩) n c) (w.alloc (.cells (zrow c) e)):=by
 subst hL;subst hC;have hr:=run_make (P:=P) w t e i (.int .u32 0) ht hi hz .i64 .i64 n c (by omega) (by omega) (by rw [hby]; omega) (by omega);rw [hr,hsize];simp only [Int.toNat_natCast,Nat.mul_one];congr 3
 simp [zrow,madeCells,Value.cells,Array.ext_iff,Nat.mod_one]
def VRes (n m:Nat) (w:World):Ending→World→Prop:=fun e w'=>
 ∃ A c r,e=.returned (.slice A r.length c)∧Sl w' A r c∧val r=n∧r.length≤m∧Below w.heap.size w w'
theorem Blk.setv {w:World} {g:Nat} {t:TypeId} {l:List Nat} (h:Blk w g t l) {z:Int} {x:Nat} (hv:z=x) (i:Nat):Blk (w.setCell ⟨g,i,none⟩ (.int .u32 z)) g t (l.set i x):=by
 subst hv; exact h.set_ i x
theorem int_eq {k:IntKind} {a b:Int} (h:a=b):Value.int k a=.int k b:=by rw [h]
theorem app_below {w wr w1:World} {e:TypeId} {v:Value} {o:List Nat} {obj:Obj} (hb:Below w.heap.size w wr) (ho:Ow wr w.heap.size e v o) (hg:(wr.alloc obj).grownBy w1 v.ownBlock):Below w.heap.size w w1:=
 (hb.alloc hb.size obj).grown hg (by have:=hb.size; simp; omega) ho.own
theorem Rd.onev (w:World) {z:Int} {x:Nat} (hv:z=x) (e:TypeId):Rd (w.alloc (.cells #[.int .u32 z] e)) (some ⟨w.heap.size,0,none⟩) [x]:=by subst hv; exact Rd.one w x e
theorem snoc_lim {o:List Nat} {x:Nat} (h:Lim o) (hx:x < 4294967296):Lim (o ++ [x]):=lim_append h (lim_one hx)
theorem set4 {w:World} {g g1 g2:Nat} {v1 v2 v3 v4:Value} (h:w.cell? ⟨g1,0,none⟩=some v1∧w.cell? ⟨g1,1,none⟩=some v2∧w.cell? ⟨g2,0,none⟩=some v3∧w.cell? ⟨g2,1,none⟩=some v4) (h1:g1≠g) (h2:g2≠g) (x y:Value) :
  ((w.setCell ⟨g,0,none⟩ x).setCell ⟨g,1,none⟩ y).cell? ⟨g1,0,none⟩=some v1∧((w.setCell ⟨g,0,none⟩ x).setCell ⟨g,1,none⟩ y).cell? ⟨g1,1,none⟩=some v2∧((w.setCell ⟨g,0,none⟩ x).setCell ⟨g,1,none⟩ y).cell? ⟨g2,0,none⟩=some v3∧((w.setCell ⟨g,0,none⟩ x).setCell ⟨g,1,none⟩ y).cell? ⟨g2,1,none⟩=some v4:=
 ⟨(q0d h1 x y).trans h.1,(q0d h1 x y).trans h.2.1,(q0d h2 x y).trans h.2.2.1,(q0d h2 x y).trans h.2.2.2⟩
theorem set2 {w:World} {g g1:Nat} {v1 v2:Value} (h:w.cell? ⟨g1,0,none⟩=some v1∧w.cell? ⟨g1,1,none⟩=some v2) (h1:g1≠g) (x y:Value) :
  ((w.setCell ⟨g,0,none⟩ x).setCell ⟨g,1,none⟩ y).cell? ⟨g1,0,none⟩=some v1∧((w.setCell ⟨g,0,none⟩ x).setCell ⟨g,1,none⟩ y).cell? ⟨g1,1,none⟩=some v2:=
 ⟨(q0d h1 x y).trans h.1,(q0d h1 x y).trans h.2⟩
section
variable {w w' v:World} {A:Option Addr} {l:List Nat} {c g m:Nat} {n:Bool} {o1 o2 o3 o4 o5:Obj}
theorem kS (h:Hid (Sl w A l c)) (hb:Below w.heap.size w w'):Hid (Sl w' A l c):=Sl.below h.out hb
theorem kS1 (h:Hid (Sl w A l c)) (hb:Below (w.alloc o1).heap.size (w.alloc o1) w'):Hid (Sl w' A l c):=Sl.below (h.out.alloc _) hb
theorem kS2 (h:Hid (Sl w A l c)) (hb:Below (((w.alloc o1)).alloc o2).heap.size (((w.alloc o1)).alloc o2) w'):Hid (Sl w' A l c):=Sl.below ((h.out.alloc _).alloc _) hb
theorem kS3 (h:Hid (Sl w A l c)) (hb:Below (((((w.alloc o1)).alloc o2)).alloc o3).heap.size (((((w.alloc o1)).alloc o2)).alloc o3) w'):Hid (Sl w' A l c):=Sl.below (((h.out.alloc _).alloc _).alloc _) hb
theorem kS4 (h:Hid (Sl w A l c)) (hb:Below (((((((w.alloc o1)).alloc o2)).alloc o3)).alloc o4).heap.size (((((((w.alloc o1)).alloc o2)).alloc o3)).alloc o4) w'):Hid (Sl w' A l c):=Sl.below ((((h.out.alloc _).alloc _).alloc _).alloc _) hb
theorem kB (h:Hid (Below v.heap.size v w)) (hb:Below w.heap.size w w'):Hid (Below v.heap.size v w'):=q0a h.out hb
theorem kB1 (h:Hid (Below v.heap.size v w)) (hb:Below (w.alloc o1).heap.size (w.alloc o1) w'):Hid (Below v.heap.size v w'):=q0a (q0a h.out (blw1 _ _)) hb
theorem kB2 (h:Hid (Below v.heap.size v w)) (hb:Below (((w.alloc o1)).alloc o2).heap.size (((w.alloc o1)).alloc o2) w'):Hid (Below v.heap.size v w'):=q0a (q0a (q0a h.out (blw1 _ _)) (blw1 _ _)) hb
theorem kB3 (h:Hid (Below v.heap.size v w)) (hb:Below (((((w.alloc o1)).alloc o2)).alloc o3).heap.size (((((w.alloc o1)).alloc o2)).alloc o3) w'):Hid (Below v.heap.size v w'):=q0a (q0a (q0a (q0a h.out (blw1 _ _)) (blw1 _ _)) (blw1 _ _)) hb
theorem kB4 (h:Hid (Below v.heap.size v w)) (hb:Below (((((((w.alloc o1)).alloc o2)).alloc o3)).alloc o4).heap.size (((((((w.alloc o1)).alloc o2)).alloc o3)).alloc o4) w'):Hid (Below v.heap.size v w'):=q0a (q0a (q0a (q0a (q0a h.out (blw1 _ _)) (blw1 _ _)) (blw1 _ _)) (blw1 _ _)) hb
theorem kW (h:Hid (Cw w g n A m c)) (hb:Below w.heap.size w w'):Hid (Cw w' g n A m c):=Cw.keep h.out hb
theorem kW1 (h:Hid (Cw w g n A m c)) (hb:Below (w.alloc o1).heap.size (w.alloc o1) w'):Hid (Cw w' g n A m c):=Cw.keep (Cw.keep h.out (blw1 _ _)) hb
theorem kW2 (h:Hid (Cw w g n A m c)) (hb:Below (((w.alloc o1)).alloc o2).heap.size (((w.alloc o1)).alloc o2) w'):Hid (Cw w' g n A m c):=Cw.keep (Cw.keep (Cw.keep h.out (blw1 _ _)) (blw1 _ _)) hb
theorem kFw (f:Hid (Fw w g)) (h:Hid (Cw w g n A m c)) (hb:Below w.heap.size w w'):Hid (Fw w' g):=Fw.keep f.out h.out hb
theorem kFw1 (f:Hid (Fw w g)) (h:Hid (Cw w g n A m c)) (hb:Below (w.alloc o1).heap.size (w.alloc o1) w'):Hid (Fw w' g):=Fw.keep (Fw.keep f.out h.out (blw1 _ _)) (Cw.keep h.out (blw1 _ _)) hb
theorem kFw2 (f:Hid (Fw w g)) (h:Hid (Cw w g n A m c)) (hb:Below (((w.alloc o1)).alloc o2).heap.size (((w.alloc o1)).alloc o2) w'):Hid (Fw w' g):=Fw.keep (Fw.keep (Fw.keep f.out h.out (blw1 _ _)) (Cw.keep h.out (blw1 _ _)) (blw1 _ _)) (Cw.keep (Cw.keep h.out (blw1 _ _)) (blw1 _ _)) hb
theorem lW (h:Hid (Cw w g n A m c)):g < w.heap.size:=lt_of_cell (a:=⟨g,0,none⟩) h.out.1
end
end Go.Proofs.YtgnjhlnolihgcaaGreat
namespace Go.Proofs.YtgnjhlnolihgcaaGreat
open Go.RowKit
def Bx (w:World) (g:Nat) (l:List Nat):Prop:=∃ ex t,w.heap[g]? = some (.cells (cs32 l ++ ex).toArray t (0,0))
structure But (g:Nat) (w w':World):Prop where
 os:w'.os=w.os
 tape:w'.tape=w.tape
 output:w'.output=w.output
 size:w.heap.size≤w'.heap.size
 block:∀ k,k < w.heap.size→k≠g→w'.heap[k]? = w.heap[k]?
section
variable {w w' w1 w2:World} {g g':Nat} {l:List Nat}
theorem But.refl (g:Nat) (w:World):But g w w:=⟨rfl,rfl,rfl,Nat.le_refl _,fun _ _ _=>rfl⟩
theorem But.trans (h:But g w w1) (k:But g w1 w2):But g w w2:=
 ⟨k.os.trans h.os,k.tape.trans h.tape,k.output.trans h.output,Nat.le_trans h.size k.size,fun i hi hne=>(k.block i (Nat.lt_of_lt_of_le hi h.size) hne).trans (h.block i hi hne)⟩
theorem But.of (g:Nat) (h:Below w.heap.size w w'):But g w w':=⟨h.os,h.tape,h.output,h.size,fun k hk _=>h.block k hk⟩
theorem But.below (h:But g w w') (hg:w.heap.size≤g):Below w.heap.size w w':=⟨h.os,h.tape,h.output,h.size,fun k hk=>h.block k hk (by omega)⟩
theorem But.below' (h:Below w.heap.size w w1) (k:But g w1 w2) (hg:w.heap.size≤g):Below w.heap.size w w2:=
 ⟨k.os.trans h.os,k.tape.trans h.tape,k.output.trans h.output,Nat.le_trans h.size k.size,fun i hi=>(k.block i (Nat.lt_of_lt_of_le hi h.size) (by omega)).trans (h.block i hi)⟩
theorem But.set (h:But g w w1) (p:Addr) (hp:p.block=g) (v:Value):But g w (w1.setCell p v):=
 ⟨h.os,h.tape,h.output,by simpa [World.setCell] using h.size,fun k hk hne=>(Below.heap_setCell w1 p v k (by rw [hp]; exact hne)).trans (h.block k hk hne)⟩
theorem But.drew (h:But g w w1):But g w w1.drew:=⟨h.os,h.tape,h.output,h.size,h.block⟩
theorem But.alloc (h:But g w w1) (o:Obj):But g w (w1.alloc o):=h.trans (.of g ((Below.refl _ w1).alloc (Nat.le_refl _) o))
theorem But.setRow (h:But g w w1) (cs:Array Value):But g w (w1.setRow g cs):=
 ⟨h.os,h.tape,h.output,by simpa [World.setRow] using h.size,fun k hk hne=>(setRow_other w1 g k cs (by omega)).trans (h.block k hk hne)⟩
theorem But.cell (h:But g w w') {a:Addr} {v:Value} (hc:w.cell? a=some v) (hne:a.block≠g):w'.cell? a=some v:=by
 have hlt:=lt_of_cell hc;unfold World.cell? at hc ⊢;rw [h.block _ hlt hne]; exact hc
theorem Rd.but {A:Option Addr} (h:Rd w A l) (hf:∀ ad,A=some ad→ad.block≠g) (hb:But g w w'):Rd w' A l:=fun hl=>by
 obtain ⟨b,o,e,hc⟩:=h hl;exact ⟨b,o,e,fun i hi=>hb.cell (hc i hi) (fun hk=>hf _ e hk)⟩
theorem Sl.but {A:Option Addr} {c:Nat} (h:Sl w A l c) (hf:∀ ad,A=some ad→ad.block≠g) (hb:But g w w'):Sl w' A l c:=⟨h.rd.but hf hb,h.lim,h.le,h.len⟩
theorem Rd.far {A:Option Addr} (h:Rd w A l) (hl:0 < l.length) (hg:w.heap.size≤g):∀ ad,A=some ad→ad.block≠g:=by
 intro ad e;obtain ⟨b,o,e2,hc⟩:=h hl;have:=lt_of_cell (hc 0 hl);rw [e] at e2;cases e2
 simp at this ⊢;omega
theorem Bx.lt (h:Bx w g l):g < w.heap.size:=by obtain ⟨ex,t,h⟩:=h; exact lt_of_block h
theorem Bx.cell (h:Bx w g l) {i:Nat} (hi:i < l.length):w.cell? ⟨g,i,none⟩=some (.int .u32 (l[i]?.getD 0:Nat)):=by
 obtain ⟨ex,t,h⟩:=h;rw [cell_of_row w g i _ t (0,0) h];rw [show ((cs32 l ++ ex).toArray)[i]? = (cs32 l)[i]? by simp [List.getElem?_append_left,cs32_length,hi],cs32_get hi]
theorem Bx.frozen (h:Bx w g l) (i:Nat):w.frozen? ⟨g,i,none⟩=false:=by
 obtain ⟨ex,t,h⟩:=h;simp [World.frozen?,h]
theorem Bx.rd (h:Bx w g l) (o n:Nat):Rd w (some ⟨g,o,none⟩) ((l.drop o).take n):=fun _=>⟨g,o,rfl,fun i hi=>by
 rw [List.length_take,List.length_drop] at hi;rw [h.cell (by omega),List.getElem?_take_of_lt (by omega),List.getElem?_drop]⟩
theorem Bx.rd0 (h:Bx w g l):Rd w (some ⟨g,0,none⟩) l:=fun _=>⟨g,0,rfl,fun i hi=>by rw [Nat.zero_add]; exact h.cell hi⟩
theorem Bx.drew (h:Bx w g l):Bx w.drew g l:=h
theorem Bx.below {B:Nat} (h:Bx w g l) (hb:Below B w w') (hg:g < B):Bx w' g l:=by
 obtain ⟨ex,t,h⟩:=h; exact ⟨ex,t,(hb.block g hg).trans h⟩
theorem Bx.kept (h:Bx w g l) (hb:Below w.heap.size w w'):Bx w' g l:=h.below hb h.lt
theorem Bx.but (h:Bx w g l) (hb:But g' w w') (hne:g≠g'):Bx w' g l:=by
 have hlt:=h.lt;obtain ⟨ex,t,h⟩:=h; exact ⟨ex,t,(hb.block g hlt hne).trans h⟩
theorem Bx.alloc (h:Bx w g l) (o:Obj):Bx (w.alloc o) g l:=h.kept ((Below.refl _ w).alloc (Nat.le_refl _) o)
theorem Bx.set (h:Bx w g l) {z:Int} {x:Nat} (hv:z=x) {i:Nat} (hi:i < l.length):Bx (w.setCell ⟨g,i,none⟩ (.int .u32 z)) g (l.set i x):=by
 subst hv;obtain ⟨ex,t,h⟩:=h;refine ⟨ex,t,?_⟩;simp [World.setCell,Array.getElem?_modify,h,cs32,List.map_set,List.set_append_left,hi]
theorem Bx.setFar (h:Bx w g l) {p:Addr} (hp:g≠p.block) (u:Value):Bx (w.setCell p u) g l:=by
 obtain ⟨ex,t,h⟩:=h;exact ⟨ex,t,(Below.heap_setCell w p u g hp).trans h⟩
theorem Blk.bx {t:TypeId} (h:Blk w g t l):Bx w g l:=⟨[],t,by simpa [cs32,Blk] using h⟩
theorem Ow.bx {base:Nat} {e:TypeId} {A:Option Addr} {c:Nat} (h:Ow w base e (.slice A l.length c) l) (hl:0 < l.length):∃ g,A=some ⟨g,0,none⟩∧base≤g∧Bx w g l:=by
 rcases h.2 with ⟨hv,h0⟩ | ⟨g,cap,cur,hv,hg,hh,hnc,hcap,hsz,htk⟩
 ·omega
 ·simp only [Value.slice.injEq] at hv;obtain ⟨rfl,_,rfl⟩:=hv;refine ⟨g,rfl,hg,cur.toList.drop l.length,e,?_⟩;rw [hh];congr 2
  rw [Nat.mul_one] at htk;rw [← htk,List.take_append_drop]
def seg (l:List Nat) (j:Nat) (s:List Nat):List Nat:=l.take j ++ (s ++ l.drop (j+s.length))
theorem seg_length {j:Nat} {s:List Nat} (h:j+s.length≤l.length):(seg l j s).length=l.length:=by simp [seg]; omega
theorem Bx.splice (h:Bx w g l) {j:Nat} {s:List Nat} (hj:j+s.length≤l.length):∀ {cur:Array Value} {t:TypeId},w.heap[g]? = some (.cells cur t (0,0)) →
  Bx (w.setRow g (cur.toList.take j ++ (cs32 s ++ cur.toList.drop (j+(cs32 s).length))).toArray) g (seg l j s):=by
 intro cur t hc;obtain ⟨ex,t',h⟩:=h;have e:=h.symm.trans hc;simp only [Option.some.injEq,Obj.cells.injEq] at e;obtain ⟨rfl,rfl,_⟩:=e;refine ⟨ex,t',?_⟩;rw [setRow_heap w g _ _ _ _ h];congr 2
 simp only [seg,cs32_length];congr 1
 simp only [cs32,List.map_append,List.map_take,List.map_drop,List.append_assoc];rw [List.take_append_of_le_length (by simp; omega),List.drop_append_of_le_length (by simp; omega)]
end
def LRes2 (a b:List Nat) (w:World):Ending→World→Prop:=fun e w'=>
 ∃ A c A2 c2,e=.returned (.tuple #[.slice A a.length c,.slice A2 b.length c2])∧Sl w' A a c∧Sl w' A2 b c2∧Below w.heap.size w w'
end Go.Proofs.YtgnjhlnolihgcaaGreat
namespace Go.Proofs.YtgnjhlnolihgcaaGreat
open Go.RowKit
theorem ow_zrow (w:World) (e:TypeId) (n c:Nat) (hnc:n≤c) (hc:c≤35184372088832):Ow (w.alloc (.cells (zrow c) e)) w.heap.size e (.slice (some ⟨w.heap.size,0,none⟩) n c) (List.replicate n 0):=by
 have h:Ow (w.alloc (.cells (zrow c) e)) w.heap.size e (.slice (some ⟨w.heap.size,0,none⟩) (List.replicate n 0).length c) (List.replicate n 0):=by
  refine ⟨by simp [cs32],.inr ⟨w.heap.size,c,zrow c,rfl,Nat.le_refl _,heap_alloc_new w _,by simpa using hnc,by unfold maxLen; omega,by simp [zrow],?_⟩⟩;simp [zrow,cs32,List.map_replicate,Nat.min_eq_left hnc]
 simpa using h
def ORes (n m:Nat) (w:World):Ending→World→Prop:=fun e w'=>
 ∃ A c r,e=.returned (.slice A r.length c)∧Ow w' w.heap.size 146 (.slice A r.length c) r∧Lim r∧val r=n∧r.length=m∧Below w.heap.size w w'
theorem Sl.trim {w:World} {A:Option Addr} {l:List Nat} {c:Nat} (h:Sl w A l c):Sl w A (limbs (val l)) c:=by
 have e:=trim_eq h.lim;have hl:=trimN_le l l.length;have h1:=h.le;have h2:=h.len;rw [← e];exact ⟨h.rd.take _,lim_take h.lim _,by rw [List.length_take]; omega,by rw [List.length_take]; omega⟩
end Go.Proofs.YtgnjhlnolihgcaaGreat
namespace Go.Proofs.YtgnjhlnolihgcaaGreat
end Go.Proofs.YtgnjhlnolihgcaaGreat
namespace Go.Proofs.YtgnjhlnolihgcaaGreat
open Go.RowKit
def DRes (r:(Bool × List Nat) × (Bool × List Nat) × Int) (w:World):Ending→World→Prop:=fun e w'=>
 ∃ A c A2 c2,e=.returned (.tuple #[.agg #[.bool r.1.1,.slice A r.1.2.length c],.agg #[.bool r.2.1.1,.slice A2 r.2.1.2.length c2],.int .i64 r.2.2])∧Sl w' A r.1.2 c∧Sl w' A2 r.2.1.2 c2∧Below w.heap.size w w'
theorem Cw.new {w:World} {g:Nat} {n n':Bool} {A A':Option Addr} {m m' c c':Nat} (h:Cw w g n A m c):Cw ((w.setCell ⟨g,0,none⟩ (.bool n')).setCell ⟨g,1,none⟩ (.slice A' m' c')) g n' A' m' c':=by
 obtain ⟨h0,h1⟩:=h;constructor
 ·rw [World.cell?_setCell_other _ _ _ _ (by simp),World.cell?_setCell_same _ _ _ (by rw [h0])]
 ·exact World.cell?_setCell_same _ _ _ (by rw [World.cell?_setCell_other _ _ _ _ (by simp),h1])
theorem Fw.setW {w:World} {g g':Nat} (h:Fw w g) (x y:Value):Fw ((w.setCell ⟨g',0,none⟩ x).setCell ⟨g',1,none⟩ y) g:=by
 obtain ⟨h0,h1⟩:=h;exact ⟨by rw [World.frozen?_setCell,World.frozen?_setCell]; exact h0,by rw [World.frozen?_setCell,World.frozen?_setCell]; exact h1⟩
theorem dres_end {r:(Bool × List Nat) × (Bool × List Nat) × Int} {w wS:World} {g1 g2:Nat} {A A2 B1 B2:Option Addr} {c c2 m1 d1 m2 d2:Nat} {n1 n2:Bool} (h1:Sl wS A r.1.2 c) (h2:Sl wS A2 r.2.1.2 c2) (q1:Cw wS g1 n1 B1 m1 d1) (q2:Cw wS g2 n2 B2 m2 d2)
  (hb:Below w.heap.size w wS) (l1:w.heap.size≤g1) (l2:w.heap.size≤g2) (hne:g2≠g1) :
  DRes r w (.returned (.tuple #[.agg #[.bool r.1.1,.slice A r.1.2.length c],.agg #[.bool r.2.1.1,.slice A2 r.2.1.2.length c2],.int .i64 r.2.2]))
   ((((wS.setCell ⟨g1,0,none⟩ (.bool r.1.1)).setCell ⟨g1,1,none⟩ (.slice A r.1.2.length c)).setCell ⟨g2,0,none⟩ (.bool r.2.1.1)).setCell ⟨g2,1,none⟩ (.slice A2 r.2.1.2.length c2)).drew:=by
 have q3:=q2.setW hne (.bool r.1.1) (.slice A r.1.2.length c);exact ⟨A,c,A2,c2,rfl,((h1.setW q1.1 q1.2 _ _).setW q3.1 q3.2 _ _).drew,((h2.setW q1.1 q1.2 _ _).setW q3.1 q3.2 _ _).drew,(q0c (q0c hb l1 _ _) l2 _ _).drew⟩
theorem dres_bad {w wS:World} {g1 g2:Nat} (e:Int) (hb:Below w.heap.size w wS) (l1:w.heap.size≤g1) (l2:w.heap.size≤g2) :
  DRes ((false,[]),(false,[]),e) w (.returned (.tuple #[.agg #[.bool false,.slice none 0 0],.agg #[.bool false,.slice none 0 0],.int .i64 e]))
   ((((wS.setCell ⟨g1,0,none⟩ (.bool false)).setCell ⟨g1,1,none⟩ (.slice none 0 0)).setCell ⟨g2,0,none⟩ (.bool false)).setCell ⟨g2,1,none⟩ (.slice none 0 0)):=by
 exact ⟨none,0,none,0,rfl,Sl.nil _ _ _,Sl.nil _ _ _,q0c (q0c hb l1 _ _) l2 _ _⟩
theorem Fw.fresh {w:World} {g:Nat} (hg:g=w.heap.size) (cs:Array Value) (t:TypeId):Fw (w.alloc (.cells cs t)) g:=by subst hg; exact ⟨by simp,by simp⟩
theorem Fw.alloc {w:World} {g:Nat} {n:Bool} {A:Option Addr} {m c:Nat} (f:Fw w g) (h:Cw w g n A m c) (o:Obj):Fw (w.alloc o) g:=f.keep h (blw1 _ _)
end Go.Proofs.YtgnjhlnolihgcaaGreat
namespace Go.Proofs.YtgnjhlnolihgcaaGreat
open Go.RowKit
def BoxAt (W:World) (o:Option (Nat × Bool × Option Addr × Nat × Nat)):Prop:=∀ g n A m c,o=some (g,n,A,m,c)→Cw W g n A m c∧Fw W g
def SlAt (W:World) (x:Option (Option Addr × Nat)) (l:List Nat):Prop:=∀ A c,x=some (A,c)→Sl W A l c
structure RS (w:World) (S:World→Prop) (l1 l2:List Nat) (o5 o6:Option (Nat × Bool × Option Addr × Nat × Nat)) (x1 x2:Option (Option Addr × Nat)) (W:World):Prop where
 b:Below w.heap.size w W
 ks:S W
 k5:BoxAt W o5
 k6:BoxAt W o6
 s1:SlAt W x1 l1
 s2:SlAt W x2 l2
section
variable {w W v:World} {S:World→Prop} {l1 l2:List Nat} {o5 o6:Option (Nat × Bool × Option Addr × Nat × Nat)} {x1 x2:Option (Option Addr × Nat)} {g g' m c m' c':Nat} {n n':Bool} {A A':Option Addr}
theorem BoxAt.keep {o:Option (Nat × Bool × Option Addr × Nat × Nat)} (h:BoxAt W o) (hb:Below W.heap.size W v):BoxAt v o:=fun _ _ _ _ _ e=>⟨(h _ _ _ _ _ e).1.keep hb,Fw.keep (h _ _ _ _ _ e).2 (h _ _ _ _ _ e).1 hb⟩
theorem SlAt.keep {x:Option (Option Addr × Nat)} {l:List Nat} (h:SlAt W x l) (hb:Below W.heap.size W v):SlAt v x l:=fun _ _ e=>(h _ _ e).below hb
theorem RS.keep (h:RS w S l1 l2 o5 o6 x1 x2 W) (hb:Below W.heap.size W v) (hS:S v):RS w S l1 l2 o5 o6 x1 x2 v:=⟨q0a h.b hb,hS,h.k5.keep hb,h.k6.keep hb,h.s1.keep hb,h.s2.keep hb⟩
theorem RS.start (hb:Below w.heap.size w W) (hS:S W):RS w S l1 l2 none none none none W:=
 ⟨hb,hS,fun _ _ _ _ _ e=>(by cases e),fun _ _ _ _ _ e=>(by cases e),fun _ _ e=>(by cases e),fun _ _ e=>(by cases e)⟩
theorem BoxAt.set {o:Option (Nat × Bool × Option Addr × Nat × Nat)} (h:BoxAt W o) (hne:∀ g' n A m c,o=some (g',n,A,m,c)→g'≠g) (x y:Value):BoxAt ((W.setCell ⟨g,0,none⟩ x).setCell ⟨g,1,none⟩ y) o:=fun _ _ _ _ _ e=>
 ⟨(h _ _ _ _ _ e).1.setW (hne _ _ _ _ _ e) _ _,(h _ _ _ _ _ e).2.setW _ _⟩
end
end Go.Proofs.YtgnjhlnolihgcaaGreat
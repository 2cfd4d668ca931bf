import Derived.Test.YtcpofeehpijbcaaGreatDoorMath
import Derived.WalkKit
import Derived.Laws.OwnMore
import Derived.Deep.Draws
import Derived.Laws.Rows
import Derived.Lib.Hide
import Derived.Maps.AppendAt
import Derived.Deep.AppendLies
import Derived.OwnWalk
import Derived.Laws.MakeOwn
import Derived.Laws.CopyOwn
namespace Go.Proofs.YtcpofeehpijbcaaGreatDoor
open Go.RowKit
def Rd (w:World) (A:Option Addr) (l:List Nat):Prop:=
 0 < l.length→∃ b o,A=some ⟨b,o,none⟩∧∀ i,i < l.length→w.cell? ⟨b,o+i,none⟩=some (.int .u32 (l[i]?.getD 0:Nat))
theorem lt_of_cell {w:World} {a:Addr} {v:Value} (h:w.cell? a=some v):a.block < w.heap.size:=by
 unfold World.cell? at h;rcases Nat.lt_or_ge a.block w.heap.size with hl | hl
 ·exact hl
 ·rw [Array.getElem?_eq_none hl] at h; cases h
theorem q0b {w w':World} (hb:Below w.heap.size w w') {a:Addr} {v:Value} (h:w.cell? a=some v):w'.cell? a=some v:=(hb.cell (lt_of_cell h)).trans h
theorem Rd.below {w w':World} {A:Option Addr} {l:List Nat} (h:Rd w A l) (hb:Below w.heap.size w w'):Rd w' A l:=fun hl=>by
 obtain ⟨b,o,e,hc⟩:=h hl;exact ⟨b,o,e,fun i hi=>q0b hb (hc i hi)⟩
theorem Rd.alloc {w:World} {A:Option Addr} {l:List Nat} (h:Rd w A l) (o:Obj):Rd (w.alloc o) A l:=h.below ((Below.refl _ w).alloc (Nat.le_refl _) o)
theorem Rd.drew {w:World} {A:Option Addr} {l:List Nat} (h:Rd w A l):Rd w.drew A l:=h
theorem Rd.nil (w:World) (A:Option Addr):Rd w A []:=fun h=>by simp at h
theorem Rd.take {w:World} {A:Option Addr} {l:List Nat} (h:Rd w A l) (n:Nat):Rd w A (l.take n):=fun hl=>by
 have hn:0 < l.length:=(by rw [List.length_take] at hl; omega);obtain ⟨b,o,e,hc⟩:=h hn;refine ⟨b,o,e,fun i hi=>?_⟩;rw [List.length_take] at hi;rw [List.getElem?_take_of_lt (by omega)];exact hc i (by omega)
theorem Rd.at_ {w:World} {A:Option Addr} {l:List Nat} (h:Rd w A l) {k:Nat} (hk:k < l.length):∃ b o,A=some ⟨b,o,none⟩∧w.cell? ⟨b,o+k,none⟩=some (.int .u32 (l[k]?.getD 0:Nat)):=by
 obtain ⟨b,o,e,hc⟩:=h (by omega);exact ⟨b,o,e,hc k hk⟩
structure Sl (w:World) (A:Option Addr) (l:List Nat) (c:Nat):Prop where
 rd:Rd w A l
 lim:Lim l
 le:l.length≤c
 len:l.length≤35184372088832
theorem Sl.below {w w':World} {A:Option Addr} {l:List Nat} {c:Nat} (h:Sl w A l c) (hb:Below w.heap.size w w'):Sl w' A l c:=⟨h.rd.below hb,h.lim,h.le,h.len⟩
theorem Sl.alloc {w:World} {A:Option Addr} {l:List Nat} {c:Nat} (h:Sl w A l c) (o:Obj):Sl (w.alloc o) A l c:=⟨h.rd.alloc o,h.lim,h.le,h.len⟩
theorem Sl.drew {w:World} {A:Option Addr} {l:List Nat} {c:Nat} (h:Sl w A l c):Sl w.drew A l c:=⟨h.rd,h.lim,h.le,h.len⟩
theorem Sl.nil (w:World) (A:Option Addr) (c:Nat):Sl w A [] c:=⟨Rd.nil _ _,lim_nil,Nat.zero_le _,Nat.zero_le _⟩
def Blk (w:World) (g:Nat) (t:TypeId) (l:List Nat):Prop:=w.heap[g]? = some (.cells (l.map fun x=>Value.int .u32 (x:Nat)).toArray t (0,0))
section
variable {w w':World} {g:Nat} {t:TypeId} {l:List Nat}
theorem Blk.lt (h:Blk w g t l):g < w.heap.size:=lt_of_block h
theorem Blk.cell (h:Blk w g t l) {i:Nat} (hi:i < l.length):w.cell? ⟨g,i,none⟩=some (.int .u32 (l[i]?.getD 0:Nat)):=by
 rw [cell_of_row w g i _ t (0,0) h];simp [List.getElem?_eq_getElem hi]
theorem Blk.frozen (h:Blk w g t l) (i:Nat):w.frozen? ⟨g,i,none⟩=false:=by
 unfold Blk at h;simp [World.frozen?,h]
theorem Blk.rd (h:Blk w g t l):Rd w (some ⟨g,0,none⟩) l:=fun _=>⟨g,0,rfl,fun i hi=>by rw [Nat.zero_add]; exact h.cell hi⟩
theorem Blk.drew (h:Blk w g t l):Blk w.drew g t l:=h
theorem Blk.drewN (h:Blk w g t l) (n:Nat):Blk (w.drewN n) g t l:=h
theorem Blk.alloc (h:Blk w g t l) (o:Obj):Blk (w.alloc o) g t l:=(Below.heap_alloc w o g h.lt).trans h
theorem Blk.set_ (h:Blk w g t l) (i x:Nat):Blk (w.setCell ⟨g,i,none⟩ (.int .u32 (x:Nat))) g t (l.set i x):=by
 unfold Blk at h ⊢;simp [World.setCell,Array.getElem?_modify,h,List.map_set]
theorem Blk.far (h:Blk w g t l) {p:Addr} (hp:g≠p.block) (u:Value):Blk (w.setCell p u) g t l:=(Below.heap_setCell w p u g hp).trans h
theorem Blk.below {B:Nat} (h:Blk w g t l) (hb:Below B w w') (hg:g < B):Blk w' g t l:=(hb.block g hg).trans h
theorem Blk.new (w:World) (t:TypeId) (l:List Nat):Blk (w.alloc (.cells (l.map fun x=>Value.int .u32 (x:Nat)).toArray t)) w.heap.size t l:=heap_alloc_new w _
end
theorem below_drewN {B:Nat} {a w:World} (h:Below B a w) (n:Nat):Below B a (w.drewN n):=⟨h.os,h.tape,h.output,h.size,h.block⟩
theorem q0a {w w1 w2:World} (h:Below w.heap.size w w1) (k:Below w1.heap.size w1 w2):Below w.heap.size w w2:=h.trans (k.mono h.size)
def cs32 (l:List Nat):List Value:=l.map fun x=>Value.int .u32 (x:Nat)
theorem cs32_length (l:List Nat):(cs32 l).length=l.length:=by simp [cs32]
theorem cs32_get {l:List Nat} {i:Nat} (hi:i < l.length):(cs32 l)[i]? = some (.int .u32 (l[i]?.getD 0:Nat)):=by simp [cs32,List.getElem?_eq_getElem hi]
def Ow (w:World) (base:Nat) (e:TypeId) (v:Value) (l:List Nat):Prop:=w.ownsRow base e 1 v l.length (cs32 l)
section
variable {w w':World} {base:Nat} {e:TypeId} {v:Value} {l:List Nat} {A:Option Addr} {c:Nat}
theorem Ow.rd (h:Ow w base e (.slice A l.length c) l):Rd w A l:=fun hl=>by
 obtain ⟨g,cap,hv,_,_⟩:=World.ownsRow.form h hl;simp only [Value.slice.injEq] at hv;obtain ⟨rfl,_,rfl⟩:=hv;refine ⟨g,0,rfl,fun i hi=>?_⟩;rw [Nat.zero_add,World.ownsRow.cellAt h i (by omega),cs32_get hi]
theorem Ow.le (h:Ow w base e (.slice A l.length c) l):l.length≤c:=by
 rcases h.2 with ⟨hv,h0⟩ | ⟨g,cap,cur,hv,_,_,hle,_⟩
 ·omega
 ·simp only [Value.slice.injEq] at hv;omega
theorem Ow.sl (h:Ow w base e (.slice A l.length c) l) (hl:Lim l) (hn:l.length≤35184372088832):Sl w A l c:=⟨h.rd,hl,h.le,hn⟩
theorem Ow.alloc (h:Ow w base e v l) (o:Obj):Ow (w.alloc o) base e v l:=World.ownsRow.alloc h o
theorem Ow.mono {b:Nat} (h:Ow w base e v l) (hb:b≤base):Ow w b e v l:=by
 refine ⟨h.1,?_⟩;rcases h.2 with h2 | ⟨g,cap,cur,hv,hg,r⟩
 ·exact .inl h2
 ·exact .inr ⟨g,cap,cur,hv,by omega,r⟩
theorem Ow.below {B:Nat} (h:Ow w base e v l) (hb:Below B w w') (hB:w.heap.size≤B):Ow w' base e v l:=by
 refine ⟨h.1,?_⟩;rcases h.2 with h2 | ⟨g,cap,cur,hv,hg,hh,r⟩
 ·exact .inl h2
 ·exact .inr ⟨g,cap,cur,hv,hg,(hb.block g (by have:=lt_of_block hh; omega)).trans hh,r⟩
theorem Rd.one (w:World) (x:Nat) (e:TypeId):Rd (w.alloc (.cells #[.int .u32 (x:Nat)] e)) (some ⟨w.heap.size,0,none⟩) [x]:=
 (Blk.new w e [x]).rd
theorem Rd.two (w:World) (x y:Nat) (e:TypeId):Rd (w.alloc (.cells #[.int .u32 (x:Nat),.int .u32 (y:Nat)] e)) (some ⟨w.heap.size,0,none⟩) [x,y]:=
 (Blk.new w e [x,y]).rd
end
theorem Ow.own {w:World} {base:Nat} {e:TypeId} {v:Value} {l:List Nat} (h:Ow w base e v l):∀ k,v.ownBlock=some k→base≤k:=fun k hk=>(World.ownsRow.lt h k hk).1
theorem blw1 (w:World) (o:Obj):Below w.heap.size w (w.alloc o):=(Below.refl _ _).alloc (Nat.le_refl _) _
theorem blw2 (w:World) (o o2:Obj):Below w.heap.size w ((w.alloc o).alloc o2):=(blw1 w o).alloc (by simp) _
theorem blw3 (w:World) (o o2 o3:Obj):Below w.heap.size w (((w.alloc o).alloc o2).alloc o3):=(blw2 w o o2).alloc (by simp; omega) _
theorem Rd.set {w:World} {A:Option Addr} {l:List Nat} (h:Rd w A l) {p:Addr} {v:Value} (hp:w.cell? p=some v) (hv:∀ n,v≠.int .u32 n) (u:Value):Rd (w.setCell p u) A l:=fun hl=>by
 obtain ⟨b,o,e,hc⟩:=h hl;refine ⟨b,o,e,fun i hi=>?_⟩;have h1:=hc i hi;rw [World.cell?_setCell_other w p ⟨b,o+i,none⟩ u (fun e=>by subst e; rw [h1] at hp; cases hp; exact hv _ rfl)];exact h1
theorem Sl.set {w:World} {A:Option Addr} {l:List Nat} {c:Nat} (h:Sl w A l c) {p:Addr} {v:Value} (hp:w.cell? p=some v) (hv:∀ n,v≠.int .u32 n) (u:Value):Sl (w.setCell p u) A l c:=⟨h.rd.set hp hv u,h.lim,h.le,h.len⟩
theorem Sl.setW {w:World} {A:Option Addr} {l:List Nat} {c g:Nat} (h:Sl w A l c) {b:Bool} {A2:Option Addr} {n2 c2:Nat} (q0:w.cell? ⟨g,0,none⟩=some (.bool b)) (q1:w.cell? ⟨g,1,none⟩=some (.slice A2 n2 c2)) (x y:Value) :
  Sl ((w.setCell ⟨g,0,none⟩ x).setCell ⟨g,1,none⟩ y) A l c:=
 (h.set q0 (fun _ e=>by cases e) x).set (v:=.slice A2 n2 c2) (by rw [World.cell?_setCell_other _ _ _ _ (by simp)]; exact q1) (fun _ e=>by cases e) y
end Go.Proofs.YtcpofeehpijbcaaGreatDoor
namespace Go.Proofs.YtcpofeehpijbcaaGreatDoor
open Go.RowKit
theorem kept_frozen {w w':World} (hb:Below w.heap.size w w') {a:Addr} {v:Value} (h:w.cell? a=some v) (hf:w.frozen? a=false):w'.frozen? a=false:=(hb.frozen (lt_of_cell h)).trans hf
theorem cell_setW {w:World} {g h i:Nat} (hne:h≠g) (x y:Value):((w.setCell ⟨g,0,none⟩ x).setCell ⟨g,1,none⟩ y).cell? ⟨h,i,none⟩=w.cell? ⟨h,i,none⟩:=by
 rw [World.cell?_setCell_other _ _ _ _ (fun e=>hne (congrArg Addr.block e).symm),World.cell?_setCell_other _ _ _ _ (fun e=>hne (congrArg Addr.block e).symm)]
def Cw (w:World) (g:Nat) (n:Bool) (A:Option Addr) (m c:Nat):Prop:=w.cell? ⟨g,0,none⟩=some (.bool n)∧w.cell? ⟨g,1,none⟩=some (.slice A m c)
theorem Cw.keep {w w':World} {g:Nat} {n:Bool} {A:Option Addr} {m c:Nat} (h:Cw w g n A m c) (hb:Below w.heap.size w w'):Cw w' g n A m c:=⟨q0b hb h.1,q0b hb h.2⟩
theorem Cw.setW {w:World} {g g':Nat} {n:Bool} {A:Option Addr} {m c:Nat} (h:Cw w g n A m c) (hne:g≠g') (x y:Value):Cw ((w.setCell ⟨g',0,none⟩ x).setCell ⟨g',1,none⟩ y) g n A m c:=⟨(cell_setW hne x y).trans h.1,(cell_setW hne x y).trans h.2⟩
theorem Cw.drew {w:World} {g:Nat} {n:Bool} {A:Option Addr} {m c:Nat} (h:Cw w g n A m c):Cw w.drew g n A m c:=h
def Fw (w:World) (g:Nat):Prop:=w.frozen? ⟨g,0,none⟩=false∧w.frozen? ⟨g,1,none⟩=false
theorem Fw.drew {w:World} {g:Nat} (f:Fw w g):Fw w.drew g:=f
theorem Fw.keep {w w':World} {g:Nat} {n:Bool} {A:Option Addr} {m c:Nat} (f:Fw w g) (h:Cw w g n A m c) (hb:Below w.heap.size w w'):Fw w' g:=⟨kept_frozen hb h.1 f.1,kept_frozen hb h.2 f.2⟩
theorem Ow.drew {w:World} {base:Nat} {e:TypeId} {v:Value} {l:List Nat} (h:Ow w base e v l):Ow w.drew base e v l:=h
theorem Cw.fresh {w:World} {g:Nat} (hg:g=w.heap.size) (n:Bool) (A:Option Addr) (m c:Nat) (t:TypeId):Cw (w.alloc (.cells #[.bool n,.slice A m c] t)) g n A m c:=by subst hg; exact ⟨by simp,by simp⟩
end Go.Proofs.YtcpofeehpijbcaaGreatDoor
namespace Go.Proofs.YtcpofeehpijbcaaGreatDoor
open Go.RowKit
section
variable {w w' v:World} {A:Option Addr} {l:List Nat} {c g m:Nat} {n:Bool} {o1 o2 o3 o4 o5:Obj}
end
end Go.Proofs.YtcpofeehpijbcaaGreatDoor
namespace Go.Proofs.YtcpofeehpijbcaaGreatDoor
open Go.RowKit
def Bx (w:World) (g:Nat) (l:List Nat):Prop:=∃ ex t,w.heap[g]? = some (.cells (cs32 l ++ ex).toArray t (0,0))
structure But (g:Nat) (w w':World):Prop where
 os:w'.os=w.os
 tape:w'.tape=w.tape
 output:w'.output=w.output
 size:w.heap.size≤w'.heap.size
 block:∀ k,k < w.heap.size→k≠g→w'.heap[k]? = w.heap[k]?
section
variable {w w' w1 w2:World} {g g':Nat} {l:List Nat}
theorem But.refl (g:Nat) (w:World):But g w w:=⟨rfl,rfl,rfl,Nat.le_refl _,fun _ _ _=>rfl⟩
theorem But.trans (h:But g w w1) (k:But g w1 w2):But g w w2:=
 ⟨k.os.trans h.os,k.tape.trans h.tape,k.output.trans h.output,Nat.le_trans h.size k.size,fun i hi hne=>(k.block i (Nat.lt_of_lt_of_le hi h.size) hne).trans (h.block i hi hne)⟩
theorem But.of (g:Nat) (h:Below w.heap.size w w'):But g w w':=⟨h.os,h.tape,h.output,h.size,fun k hk _=>h.block k hk⟩
theorem But.below (h:But g w w') (hg:w.heap.size≤g):Below w.heap.size w w':=⟨h.os,h.tape,h.output,h.size,fun k hk=>h.block k hk (by omega)⟩
theorem But.set (h:But g w w1) (p:Addr) (hp:p.block=g) (v:Value):But g w (w1.setCell p v):=
 ⟨h.os,h.tape,h.output,by simpa [World.setCell] using h.size,fun k hk hne=>(Below.heap_setCell w1 p v k (by rw [hp]; exact hne)).trans (h.block k hk hne)⟩
theorem But.drew (h:But g w w1):But g w w1.drew:=⟨h.os,h.tape,h.output,h.size,h.block⟩
theorem But.alloc (h:But g w w1) (o:Obj):But g w (w1.alloc o):=h.trans (.of g ((Below.refl _ w1).alloc (Nat.le_refl _) o))
theorem But.cell (h:But g w w') {a:Addr} {v:Value} (hc:w.cell? a=some v) (hne:a.block≠g):w'.cell? a=some v:=by
 have hlt:=lt_of_cell hc;unfold World.cell? at hc ⊢;rw [h.block _ hlt hne]; exact hc
theorem Rd.far {A:Option Addr} (h:Rd w A l) (hl:0 < l.length) (hg:w.heap.size≤g):∀ ad,A=some ad→ad.block≠g:=by
 intro ad e;obtain ⟨b,o,e2,hc⟩:=h hl;have:=lt_of_cell (hc 0 hl);rw [e] at e2;cases e2
 simp at this ⊢;omega
theorem Bx.lt (h:Bx w g l):g < w.heap.size:=by obtain ⟨ex,t,h⟩:=h; exact lt_of_block h
theorem Bx.cell (h:Bx w g l) {i:Nat} (hi:i < l.length):w.cell? ⟨g,i,none⟩=some (.int .u32 (l[i]?.getD 0:Nat)):=by
 obtain ⟨ex,t,h⟩:=h;rw [cell_of_row w g i _ t (0,0) h];rw [show ((cs32 l ++ ex).toArray)[i]? = (cs32 l)[i]? by simp [List.getElem?_append_left,cs32_length,hi],cs32_get hi]
theorem Bx.frozen (h:Bx w g l) (i:Nat):w.frozen? ⟨g,i,none⟩=false:=by
 obtain ⟨ex,t,h⟩:=h;simp [World.frozen?,h]
theorem Bx.rd (h:Bx w g l) (o n:Nat):Rd w (some ⟨g,o,none⟩) ((l.drop o).take n):=fun _=>⟨g,o,rfl,fun i hi=>by
 rw [List.length_take,List.length_drop] at hi;rw [h.cell (by omega),List.getElem?_take_of_lt (by omega),List.getElem?_drop]⟩
theorem Bx.drew (h:Bx w g l):Bx w.drew g l:=h
theorem Bx.below {B:Nat} (h:Bx w g l) (hb:Below B w w') (hg:g < B):Bx w' g l:=by
 obtain ⟨ex,t,h⟩:=h; exact ⟨ex,t,(hb.block g hg).trans h⟩
theorem Bx.kept (h:Bx w g l) (hb:Below w.heap.size w w'):Bx w' g l:=h.below hb h.lt
theorem Bx.alloc (h:Bx w g l) (o:Obj):Bx (w.alloc o) g l:=h.kept ((Below.refl _ w).alloc (Nat.le_refl _) o)
theorem Bx.set (h:Bx w g l) {z:Int} {x:Nat} (hv:z=x) {i:Nat} (hi:i < l.length):Bx (w.setCell ⟨g,i,none⟩ (.int .u32 z)) g (l.set i x):=by
 subst hv;obtain ⟨ex,t,h⟩:=h;refine ⟨ex,t,?_⟩;simp [World.setCell,Array.getElem?_modify,h,cs32,List.map_set,List.set_append_left,hi]
end
end Go.Proofs.YtcpofeehpijbcaaGreatDoor
namespace Go.Proofs.YtcpofeehpijbcaaGreatDoor
open Go.RowKit
end Go.Proofs.YtcpofeehpijbcaaGreatDoor
namespace Go.Proofs.YtcpofeehpijbcaaGreatDoor
end Go.Proofs.YtcpofeehpijbcaaGreatDoor
namespace Go.Proofs.YtcpofeehpijbcaaGreatDoor
open Go.RowKit
theorem Cw.new {w:World} {g:Nat} {n n':Bool} {A A':Option Addr} {m m' c c':Nat} (h:Cw w g n A m c):Cw ((w.setCell ⟨g,0,none⟩ (.bool n')).setCell ⟨g,1,none⟩ (.slice A' m' c')) g n' A' m' c':=by
 obtain ⟨h0,h1⟩:=h;constructor
 ·rw [World.cell?_setCell_other _ _ _ _ (by simp),World.cell?_setCell_same _ _ _ (by rw [h0])]
 ·exact World.cell?_setCell_same _ _ _ (by rw [World.cell?_setCell_other _ _ _ _ (by simp),h1])
theorem Fw.setW {w:World} {g g':Nat} (h:Fw w g) (x y:Value):Fw ((w.setCell ⟨g',0,none⟩ x).setCell ⟨g',1,none⟩ y) g:=by
 obtain ⟨h0,h1⟩:=h;exact ⟨by rw [World.frozen?_setCell,World.frozen?_setCell]; exact h0,by rw [World.frozen?_setCell,World.frozen?_setCell]; exact h1⟩
theorem Fw.fresh {w:World} {g:Nat} (hg:g=w.heap.size) (cs:Array Value) (t:TypeId):Fw (w.alloc (.cells cs t)) g:=by subst hg; exact ⟨by simp,by simp⟩
theorem Fw.alloc {w:World} {g:Nat} {n:Bool} {A:Option Addr} {m c:Nat} (f:Fw w g) (h:Cw w g n A m c) (o:Obj):Fw (w.alloc o) g:=f.keep h (blw1 _ _)
end Go.Proofs.YtcpofeehpijbcaaGreatDoor
namespace Go.Proofs.YtcpofeehpijbcaaGreatDoor
open Go.RowKit
def BoxAt (W:World) (o:Option (Nat × Bool × Option Addr × Nat × Nat)):Prop:=∀ g n A m c,o=some (g,n,A,m,c)→Cw W g n A m c∧Fw W g
def SlAt (W:World) (x:Option (Option Addr × Nat)) (l:List Nat):Prop:=∀ A c,x=some (A,c)→Sl W A l c
structure RS (w:World) (S:World→Prop) (l1 l2:List Nat) (o5 o6:Option (Nat × Bool × Option Addr × Nat × Nat)) (x1 x2:Option (Option Addr × Nat)) (W:World):Prop where
 b:Below w.heap.size w W
 ks:S W
 k5:BoxAt W o5
 k6:BoxAt W o6
 s1:SlAt W x1 l1
 s2:SlAt W x2 l2
section
variable {w W v:World} {S:World→Prop} {l1 l2:List Nat} {o5 o6:Option (Nat × Bool × Option Addr × Nat × Nat)} {x1 x2:Option (Option Addr × Nat)} {g g' m c m' c':Nat} {n n':Bool} {A A':Option Addr}
theorem BoxAt.keep {o:Option (Nat × Bool × Option Addr × Nat × Nat)} (h:BoxAt W o) (hb:Below W.heap.size W v):BoxAt v o:=fun _ _ _ _ _ e=>⟨(h _ _ _ _ _ e).1.keep hb,Fw.keep (h _ _ _ _ _ e).2 (h _ _ _ _ _ e).1 hb⟩
theorem SlAt.keep {x:Option (Option Addr × Nat)} {l:List Nat} (h:SlAt W x l) (hb:Below W.heap.size W v):SlAt v x l:=fun _ _ e=>(h _ _ e).below hb
theorem RS.keep (h:RS w S l1 l2 o5 o6 x1 x2 W) (hb:Below W.heap.size W v) (hS:S v):RS w S l1 l2 o5 o6 x1 x2 v:=⟨q0a h.b hb,hS,h.k5.keep hb,h.k6.keep hb,h.s1.keep hb,h.s2.keep hb⟩
theorem BoxAt.set {o:Option (Nat × Bool × Option Addr × Nat × Nat)} (h:BoxAt W o) (hne:∀ g' n A m c,o=some (g',n,A,m,c)→g'≠g) (x y:Value):BoxAt ((W.setCell ⟨g,0,none⟩ x).setCell ⟨g,1,none⟩ y) o:=fun _ _ _ _ _ e=>
 ⟨(h _ _ _ _ _ e).1.setW (hne _ _ _ _ _ e) _ _,(h _ _ _ _ _ e).2.setW _ _⟩
end
end Go.Proofs.YtcpofeehpijbcaaGreatDoor
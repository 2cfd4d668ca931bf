import Derived.Test.YtgnjhlnolihgcaaGreatMg1
import Derived.Deep.Strs
set_option maxRecDepth 100000
namespace Go.Proofs.YtgnjhlnolihgcaaGreat
open Go.ChangeShapes Go.WideShapes Go.ChangeAt Go.RowKit Go.Joins
theorem cells_i64:Tryz.prog.cellsOf 2 = 1:=by kernel_rfl
theorem bytes_i64:Tryz.prog.bytesOf 2 = 8:=by kernel_rfl
section
variable {H:Type} {enc:TypeId × Value→H}
theorem open_i64s {W:World} {v:Value} {y:DataW H × List MemPlace} {m:Nat}
  (h:DataW.trod enc Tryz.prog W 0 (fun _=>true) true m 51 [v]=some y)
  (hw:∀ n∈DataW.weights Tryz.prog 51 y.1,n≤reachBytes) :
  ∃ (A:Option Addr) (l:List Int) (c:Nat),v=.slice A l.length c∧SlI W W.heap.size A l c:=by
 rcases open_ints Tryz.underlying51 Tryz.underlying2 cells_i64 h with ⟨e1,_⟩ | ⟨a,len,cap,zs,e1,_,hl,hm,hz,hx,hcell,hwf⟩
 ·simp only [List.cons.injEq,and_true] at e1;subst e1;exact ⟨none,[],0,rfl,SlI.nil _ _ _ _⟩
 ·simp only [List.cons.injEq,and_true] at e1;subst e1;simp only [if_true] at hz
  have hlen:len * 8≤reachBytes:=by
   have:=hw ((zs.take len).length * 8+(zs.drop len).length * 8) (by
    rw [hx];simp [DataW.weights,Tryz.underlying51,bytes_i64,lits,← Nat.add_mul])
   rw [List.length_take,List.length_drop] at this;omega
  have hl2:(zs.take len).length=len:=(by simp; omega);refine ⟨some a,zs.take len,cap,by rw [hl2],⟨fun hp=>?_,fun x hx=>?_,by omega,by have:reachBytes=140737488351232:=rfl; omega⟩⟩
  ·rw [cI_length,hl2] at hp;obtain ⟨b,off,spot⟩:=a;have hspot:spot=none:=(by simpa [Addr.add] using World.cell?_spot (hcell 0 (by omega)));subst hspot
   have hc:∀ i v,(cI (zs.take len))[i]? = some v→W.cell? ⟨b,off+i,none⟩=some v:=fun i v hv=>by
    have hi:i < len:=by
     have:=(List.getElem?_eq_some_iff.1 hv).1;rwa [cI_length,hl2] at this
    have h1:=hcell i (by omega);rw [add_plain] at h1;rw [h1,← hv];simp [cI,List.getElem?_take_of_lt hi,List.getElem?_eq_getElem (show i < zs.length by omega)]
   refine ⟨b,off,rfl,?_,hc⟩;have:=lt_of_cell (hc 0 _ (List.getElem?_eq_getElem (by rw [cI_length,hl2]; exact hp)));simpa using this
  ·exact bounds_i64 (hwf x (List.mem_of_mem_take hx))
end
end Go.Proofs.YtgnjhlnolihgcaaGreat
namespace Go.Proofs.YtgnjhlnolihgcaaGreat
open Go.RowKit
theorem flatN {α:Type} {cells:α→List Value} {m:Nat} (hm:∀ x,(cells x).length=m):∀ (xs:List α) (k j:Nat) (hk:k < xs.length),j < m→(xs.flatMap cells)[k * m+j]? = (cells (xs[k]'hk))[j]?
 | [],k,j,hk,_=>by simp at hk
 | x :: t,0,j,_,hj=>by
  rw [List.flatMap_cons,Nat.zero_mul,Nat.zero_add,List.getElem?_append_left (by rw [hm]; exact hj)]; rfl
 | x :: t,k+1,j,hk,hj=>by
  have h:=flatN hm t k j (by simpa using hk) hj;have e0:(k+1) * m=k * m+m:=(by rw [Nat.succ_mul]);rw [List.flatMap_cons,List.getElem?_append_right (by rw [hm]; omega)];have e:(k+1) * m+j - (cells x).length=k * m+j:=(by rw [hm]; omega);rw [e,h]; rfl
theorem RdV.flat {α:Type} {cells:α→List Value} {m:Nat} (hm:∀ x,(cells x).length=m) {w:World} {B:Nat} {A:Option Addr} {xs:List α} {k:Nat} (h:RdV w B A (xs.flatMap cells)) (hk:k < xs.length) (h0:0 < m) :
  ∃ b o,A=some ⟨b,o,none⟩∧b < B∧∀ j v,(cells (xs[k]'hk))[j]? = some v→w.cell? ⟨b,o+k * m+j,none⟩=some v:=by
 have hl:0 < (xs.flatMap cells).length:=by
  have h1:=flatN hm xs k 0 hk h0;rcases Nat.eq_zero_or_pos (xs.flatMap cells).length with e | e
  ·rw [List.eq_nil_of_length_eq_zero e,List.getElem?_nil,List.getElem?_eq_getElem (by rw [hm]; exact h0)] at h1; cases h1
  ·exact e
 obtain ⟨b,o,e,hb,hc⟩:=h hl;refine ⟨b,o,e,hb,fun j v hv=>?_⟩;have hj:j < m:=(by have:=(List.getElem?_eq_some_iff.1 hv).1; rwa [hm] at this);rw [Nat.add_assoc];exact hc (k * m+j) v ((flatN hm xs k j hk hj).trans hv)
structure SG where
 F:Int
 T:Int
 A0:Option Addr
 l0:List Int
 c0:Nat
 A1:Option Addr
 l1:List Int
 c1:Nat
 A2:Option Addr
 l2:List Int
 c2:Nat
def SG.cells (s:SG):List Value:=[.int .i64 s.F,.int .i64 s.T,.slice s.A0 s.l0.length s.c0,.slice s.A1 s.l1.length s.c1,.slice s.A2 s.l2.length s.c2]
structure OkS (w:World) (B:Nat) (s:SG):Prop where
 i0:SlI w B s.A0 s.l0 s.c0
 i1:SlI w B s.A1 s.l1 s.c1
 i2:SlI w B s.A2 s.l2 s.c2
 f1 : -9223372036854775808≤s.F
 f2:s.F≤9223372036854775807
 t1 : -9223372036854775808≤s.T
 t2:s.T≤9223372036854775807
theorem OkS.below {w w':World} {B:Nat} {s:SG} (h:OkS w B s) (hb:Below w.heap.size w w'):OkS w' B s:=⟨h.i0.below hb,h.i1.below hb,h.i2.below hb,h.f1,h.f2,h.t1,h.t2⟩
structure SlS (w:World) (B:Nat) (A:Option Addr) (ss:List SG) (c:Nat):Prop where
 rd:RdV w B A (ss.flatMap SG.cells)
 all:∀ s∈ss,OkS w B s
 le:ss.length≤c
 len:ss.length≤4398046511104
theorem SlS.below {w w':World} {B:Nat} {A:Option Addr} {ss:List SG} {c:Nat} (h:SlS w B A ss c) (hb:Below w.heap.size w w'):SlS w' B A ss c:=⟨h.rd.below hb,fun s hs=>(h.all s hs).below hb,h.le,h.len⟩
theorem SlS.at_ {w:World} {B:Nat} {A:Option Addr} {ss:List SG} {c k:Nat} (h:SlS w B A ss c) (hk:k < ss.length) :
  ∃ b o,A=some ⟨b,o,none⟩∧b < B∧w.cell? ⟨b,o+k * 5,none⟩=some (.int .i64 (ss[k]'hk).F)∧w.cell? ⟨b,o+k * 5+1,none⟩=some (.int .i64 (ss[k]'hk).T) ∧
   w.cell? ⟨b,o+k * 5+2,none⟩=some (.slice (ss[k]'hk).A0 (ss[k]'hk).l0.length (ss[k]'hk).c0)∧w.cell? ⟨b,o+k * 5+3,none⟩=some (.slice (ss[k]'hk).A1 (ss[k]'hk).l1.length (ss[k]'hk).c1)∧w.cell? ⟨b,o+k * 5+4,none⟩=some (.slice (ss[k]'hk).A2 (ss[k]'hk).l2.length (ss[k]'hk).c2)∧OkS w B (ss[k]'hk):=by
 obtain ⟨b,o,e,hb,hc⟩:=h.rd.flat (m:=5) (fun _=>rfl) hk (by omega);exact ⟨b,o,e,hb,hc 0 _ rfl,hc 1 _ rfl,hc 2 _ rfl,hc 3 _ rfl,hc 4 _ rfl,h.all _ (List.getElem_mem hk)⟩
structure BG where
 nm:List UInt8
 gm:Int
 rd:Int
 A:Option Addr
 ss:List SG
 c:Nat
def BG.cells (b:BG):List Value:=[.string ⟨b.nm.toArray⟩,.int .i64 b.gm,.int .i64 b.rd,.slice b.A b.ss.length b.c]
structure OkB (w:World) (B:Nat) (b:BG):Prop where
 sl:SlS w B b.A b.ss b.c
 nl:b.nm.length≤140737488355328
 g1 : -9223372036854775808≤b.gm
 g2:b.gm≤9223372036854775807
 r1 : -9223372036854775808≤b.rd
 r2:b.rd≤9223372036854775807
theorem OkB.below {w w':World} {B:Nat} {b:BG} (h:OkB w B b) (hb:Below w.heap.size w w'):OkB w' B b:=⟨h.sl.below hb,h.nl,h.g1,h.g2,h.r1,h.r2⟩
structure SlB (w:World) (B:Nat) (A:Option Addr) (bs:List BG) (c:Nat):Prop where
 rd:RdV w B A (bs.flatMap BG.cells)
 all:∀ b∈bs,OkB w B b
 le:bs.length≤c
 len:bs.length≤4398046511104
theorem SlB.below {w w':World} {B:Nat} {A:Option Addr} {bs:List BG} {c:Nat} (h:SlB w B A bs c) (hb:Below w.heap.size w w'):SlB w' B A bs c:=⟨h.rd.below hb,fun b hs=>(h.all b hs).below hb,h.le,h.len⟩
theorem SlB.at_ {w:World} {B:Nat} {A:Option Addr} {bs:List BG} {c k:Nat} (h:SlB w B A bs c) (hk:k < bs.length) :
  ∃ b o,A=some ⟨b,o,none⟩∧b < B∧w.cell? ⟨b,o+k * 4,none⟩=some (.string ⟨(bs[k]'hk).nm.toArray⟩)∧w.cell? ⟨b,o+k * 4+1,none⟩=some (.int .i64 (bs[k]'hk).gm)∧w.cell? ⟨b,o+k * 4+2,none⟩=some (.int .i64 (bs[k]'hk).rd) ∧
   w.cell? ⟨b,o+k * 4+3,none⟩=some (.slice (bs[k]'hk).A (bs[k]'hk).ss.length (bs[k]'hk).c)∧OkB w B (bs[k]'hk):=by
 obtain ⟨b,o,e,hb,hc⟩:=h.rd.flat (m:=4) (fun _=>rfl) hk (by omega);exact ⟨b,o,e,hb,hc 0 _ rfl,hc 1 _ rfl,hc 2 _ rfl,hc 3 _ rfl,h.all _ (List.getElem_mem hk)⟩
end Go.Proofs.YtgnjhlnolihgcaaGreat
import Derived.Test.YtmepgfigcdeklaaGreatMg1
import Derived.Test.YtmepgfigcdeklaaGreatW1
import Derived.BigQuiet
import Derived.Deep.QuietTactic
namespace Go.Proofs.YtmepgfigcdeklaaGreat
open Go.RowKit
attribute [local go_sem ↓] Go.wp_at_zero Go.wp_at_succ
def okF (W H:Int) (l:List Int):Bool:=decide (1≤W) && decide (W≤100) && decide (1≤H) && decide (H≤100) && decide ((l.length:Int)=W * H) && l.all fun x=>decide (-4294967296≤x) && decide (x≤4294967296)
def fchk (W H:Int) (l:List Int):Int:=if okF W H l then 0 else 8
structure FD where
 W:Int
 H:Int
 A:Option Addr
 l:List Int
 c:Nat
def FD.cells (f:FD):List Value:=[.int .i64 f.W,.int .i64 f.H,.slice f.A f.l.length f.c]
def FD.chk (f:FD):Int:=fchk f.W f.H f.l
structure OkD (w:World) (B:Nat) (f:FD):Prop where
 sl:SlI w B f.A f.l f.c
 w1 : -9223372036854775808≤f.W
 w2:f.W≤9223372036854775807
 h1 : -9223372036854775808≤f.H
 h2:f.H≤9223372036854775807
theorem OkD.below {w w':World} {B:Nat} {f:FD} (h:OkD w B f) (hb:Below w.heap.size w w'):OkD w' B f:=⟨h.sl.below hb,h.w1,h.w2,h.h1,h.h2⟩
structure SlD (w:World) (B:Nat) (A:Option Addr) (fs:List FD) (c:Nat):Prop where
 rd:RdV w B A (fs.flatMap FD.cells)
 all:∀ f∈fs,OkD w B f
 le:fs.length≤c
 len:fs.length≤4398046511104
theorem flat3:∀ (fs:List FD) (k j:Nat) (hk:k < fs.length),j < 3→(fs.flatMap FD.cells)[k * 3+j]? = (fs[k]'hk).cells[j]?
 | [],k,j,hk,_=>by simp at hk
 | f :: t,0,j,_,hj=>by
  rw [List.flatMap_cons,Nat.zero_mul,Nat.zero_add,List.getElem?_append_left (by simpa [FD.cells] using hj)]; rfl
 | f :: t,k+1,j,hk,hj=>by
  have h:=flat3 t k j (by simpa using hk) hj;rw [List.flatMap_cons,List.getElem?_append_right (by simp [FD.cells]; omega)];have e:(k+1) * 3+j - f.cells.length=k * 3+j:=(by simp [FD.cells]; omega);rw [e,h]; rfl
theorem SlD.below {w w':World} {B:Nat} {A:Option Addr} {fs:List FD} {c:Nat} (h:SlD w B A fs c) (hb:Below w.heap.size w w'):SlD w' B A fs c:=
 ⟨h.rd.below hb,fun f hf=>(h.all f hf).below hb,h.le,h.len⟩
theorem SlD.at_ {w:World} {B:Nat} {A:Option Addr} {fs:List FD} {c k:Nat} (h:SlD w B A fs c) (hk:k < fs.length) :
  ∃ b o,A=some ⟨b,o,none⟩∧b < B∧w.cell? ⟨b,o+k * 3,none⟩=some (.int .i64 (fs[k]'hk).W)∧w.cell? ⟨b,o+k * 3+1,none⟩=some (.int .i64 (fs[k]'hk).H)∧w.cell? ⟨b,o+k * 3+2,none⟩=some (.slice (fs[k]'hk).A (fs[k]'hk).l.length (fs[k]'hk).c)∧OkD w B (fs[k]'hk):=by
 have hl:0 < (fs.flatMap FD.cells).length:=by
  have h0:=flat3 fs k 0 hk (by omega);rcases Nat.eq_zero_or_pos (fs.flatMap FD.cells).length with e | e
  ·rw [List.eq_nil_of_length_eq_zero e] at h0; simp [FD.cells] at h0
  ·exact e
 obtain ⟨b,o,e,hb,hc⟩:=h.rd hl;refine ⟨b,o,e,hb,hc (k * 3) _ ?_,?_,?_,h.all _ (List.getElem_mem hk)⟩
 ·exact (flat3 fs k 0 hk (by omega)).trans rfl
 ·rw [Nat.add_assoc]; exact hc (k * 3+1) _ ((flat3 fs k 1 hk (by omega)).trans rfl)
 ·rw [Nat.add_assoc]; exact hc (k * 3+2) _ ((flat3 fs k 2 hk (by omega)).trans rfl)
end Go.Proofs.YtmepgfigcdeklaaGreat
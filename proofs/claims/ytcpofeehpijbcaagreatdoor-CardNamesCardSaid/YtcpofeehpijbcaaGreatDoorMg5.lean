import Derived.Test.YtcpofeehpijbcaaGreatDoorMg4
namespace Go.Proofs.YtcpofeehpijbcaaGreatDoor
open Go.RowKit Go.Lib Go.Shelf
attribute [local go_sem ↓] Go.wp_at_zero Go.wp_at_succ
structure OkG (c:CD):Prop where
 ok:OkC c
 o:c.o.length≤10000000000000
 t:c.t.length≤140737488355328
structure SlG (w:World) (B:Nat) (A:Option Addr) (cs:List CD) (c:Nat):Prop where
 rd:RdV w B A (cs.flatMap CD.cells)
 all:∀ x∈cs,OkG x
 le:cs.length≤c
 len:cs.length≤4398046511104
theorem SlG.below {w w':World} {B:Nat} {A:Option Addr} {cs:List CD} {c:Nat} (h:SlG w B A cs c) (hb:Below w.heap.size w w'):SlG w' B A cs c:=⟨h.rd.below hb,h.all,h.le,h.len⟩
theorem SlC.g {w:World} {B:Nat} {A:Option Addr} {cs:List CD} {c:Nat} (h:SlC w B A cs c):SlG w B A cs c:=⟨h.rd,fun x hx=>⟨(h.all x hx).ok,(h.all x hx).o,(h.all x hx).t⟩,h.le,h.len⟩
theorem SlG.at_ {w:World} {B:Nat} {A:Option Addr} {cs:List CD} {c k:Nat} (h:SlG w B A cs c) (hk:k < cs.length) :
  ∃ b o,A=some ⟨b,o,none⟩∧b < B∧w.cell? ⟨b,o+k * 7,none⟩=some (.string ⟨(cs[k]'hk).k.toArray⟩)∧w.cell? ⟨b,o+k * 7+1,none⟩=some (.int .u8 (cs[k]'hk).kd)∧w.cell? ⟨b,o+k * 7+2,none⟩=some (.bool (cs[k]'hk).y) ∧
   w.cell? ⟨b,o+k * 7+3,none⟩=some (.int .i64 (cs[k]'hk).n)∧w.cell? ⟨b,o+k * 7+4,none⟩=some (.int .i64 (cs[k]'hk).e)∧w.cell? ⟨b,o+k * 7+5,none⟩=some (.string ⟨(cs[k]'hk).t.toArray⟩)∧w.cell? ⟨b,o+k * 7+6,none⟩=some (.string ⟨(cs[k]'hk).o.toArray⟩)∧OkG (cs[k]'hk):=by
 obtain ⟨b,o,e,hb,hc⟩:=h.rd.flat (m:=7) (fun _=>rfl) hk (by omega);exact ⟨b,o,e,hb,hc 0 _ rfl,hc 1 _ rfl,hc 2 _ rfl,hc 3 _ rfl,hc 4 _ rfl,hc 5 _ rfl,hc 6 _ rfl,h.all _ (List.getElem_mem hk)⟩
structure OkY (c:CD):Prop where
 ok:OkC c
 o:c.o.length≤140737488355328
 t:c.t.length≤140737488355328
structure SlY (w:World) (B:Nat) (A:Option Addr) (cs:List CD) (c:Nat):Prop where
 rd:RdV w B A (cs.flatMap CD.cells)
 all:∀ x∈cs,OkY x
 le:cs.length≤c
 len:cs.length≤4398046511104
theorem SlY.below {w w':World} {B:Nat} {A:Option Addr} {cs:List CD} {c:Nat} (h:SlY w B A cs c) (hb:Below w.heap.size w w'):SlY w' B A cs c:=⟨h.rd.below hb,h.all,h.le,h.len⟩
theorem SlG.y {w:World} {B:Nat} {A:Option Addr} {cs:List CD} {c:Nat} (h:SlG w B A cs c):SlY w B A cs c:=⟨h.rd,fun x hx=>⟨(h.all x hx).ok,Nat.le_trans (h.all x hx).o (by decide),(h.all x hx).t⟩,h.le,h.len⟩
theorem SlY.at_ {w:World} {B:Nat} {A:Option Addr} {cs:List CD} {c k:Nat} (h:SlY w B A cs c) (hk:k < cs.length) :
  ∃ b o,A=some ⟨b,o,none⟩∧b < B∧w.cell? ⟨b,o+k * 7,none⟩=some (.string ⟨(cs[k]'hk).k.toArray⟩)∧w.cell? ⟨b,o+k * 7+1,none⟩=some (.int .u8 (cs[k]'hk).kd)∧w.cell? ⟨b,o+k * 7+2,none⟩=some (.bool (cs[k]'hk).y) ∧
   w.cell? ⟨b,o+k * 7+3,none⟩=some (.int .i64 (cs[k]'hk).n)∧w.cell? ⟨b,o+k * 7+4,none⟩=some (.int .i64 (cs[k]'hk).e)∧w.cell? ⟨b,o+k * 7+5,none⟩=some (.string ⟨(cs[k]'hk).t.toArray⟩)∧w.cell? ⟨b,o+k * 7+6,none⟩=some (.string ⟨(cs[k]'hk).o.toArray⟩)∧OkY (cs[k]'hk):=by
 obtain ⟨b,o,e,hb,hc⟩:=h.rd.flat (m:=7) (fun _=>rfl) hk (by omega);exact ⟨b,o,e,hb,hc 0 _ rfl,hc 1 _ rfl,hc 2 _ rfl,hc 3 _ rfl,hc 4 _ rfl,hc 5 _ rfl,hc 6 _ rfl,h.all _ (List.getElem_mem hk)⟩
def longC (c:CD):Bool:=decide (100 < c.k.length) || decide (500 < c.t.length) || decide (200 < c.o.length)
def greatK (cs:List CD):Bool:=cs.any longC || (decide (230 < cs.length) || (decide (30 < cs.length) && decide (cs.length≤200)))
theorem SlY.g {w:World} {B:Nat} {A:Option Addr} {cs:List CD} {c:Nat} (h:SlY w B A cs c) (hg:greatK cs=false):SlG w B A cs c:=⟨h.rd,fun x hx=>by
 unfold greatK at hg;rw [Bool.or_eq_false_iff] at hg;have h1:=List.any_eq_false.1 hg.1 x hx;unfold longC at h1;simp only [Bool.or_eq_true,decide_eq_true_eq,not_or] at h1;exact ⟨(h.all x hx).ok,by omega,(h.all x hx).t⟩,h.le,h.len⟩
def resL:List (List UInt8):=[[83,73,77,80,76,69],[88,84,69,78,83,73,79,78],[66,73,84,80,73,88],[78,65,88,73,83],[78,65,88,73,83,49],[78,65,88,73,83,50],[78,65,88,73,83,51],[80,67,79,85,78,84],[71,67,79,85,78,84],[68,65,84,65,83,85,77],[67,72,69,67,75,83,85,77]]
def resB (k:List UInt8):Bool:=resL.contains k
def fitK (b x:Int):Bool:=if b=8 then decide (0≤x) && decide (x≤255) else if b=16 then decide (-32768≤x) && decide (x < 32768) else if b=32 then decide (-2147483648≤x) && decide (x < 2147483648) else b == 64
def elB (k:Int):Bool:=decide (1≤k) && decide (k≤10000)
def prodL (l:List Int):Int:=l.foldr (· * ·) 1
def okSh (l:List Int):Bool:=l.all elB && decide (l.length≤3) && decide (prodL l≤10000)
def szR (l:List Int):Int:=if l=[] then 0 else if okSh l then prodL l else -1
def chkR1 (b:Int) (sh raw:List Int) (n:Nat):Bool:=((b == 8 || b == 16 || b == 32 || b == 64) && decide (0≤szR sh)) && ((raw.length:Int) == szR sh && decide (n≤150))
def okK9 (c:CD):Bool:=chkC c && !resB c.k
def chkR (b:Int) (sh raw:List Int) (cs:List CD):Bool:=chkR1 b sh raw cs.length && (raw.all (fitK b) && cs.all okK9)
end Go.Proofs.YtcpofeehpijbcaaGreatDoor
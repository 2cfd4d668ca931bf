import Derived.Test.YtcpofeehpijbcaaGreatDoorCd3
import Derived.Test.YtcpofeehpijbcaaGreatDoorEphD
namespace Go.Proofs.YtcpofeehpijbcaaGreatDoor
open Go.RowKit Go.Lib Go.Shelf
attribute [local go_sem ↓] Go.wp_at_zero Go.wp_at_succ
def CD.cells (c:CD):List Value:=[.string ⟨c.k.toArray⟩,.int .u8 c.kd,.bool c.y,.int .i64 c.n,.int .i64 c.e,.string ⟨c.t.toArray⟩,.string ⟨c.o.toArray⟩]
structure OkK (c:CD):Prop where
 ok:OkC c
 o:c.o.length≤10000000000000
 t:c.t.length≤140737488355328
 e : -9223372036854775808 < c.e
structure SlC (w:World) (B:Nat) (A:Option Addr) (cs:List CD) (c:Nat):Prop where
 rd:RdV w B A (cs.flatMap CD.cells)
 all:∀ x∈cs,OkK x
 le:cs.length≤c
 len:cs.length≤4398046511104
theorem SlC.below {w w':World} {B:Nat} {A:Option Addr} {cs:List CD} {c:Nat} (h:SlC w B A cs c) (hb:Below w.heap.size w w'):SlC w' B A cs c:=⟨h.rd.below hb,h.all,h.le,h.len⟩
theorem SlC.at_ {w:World} {B:Nat} {A:Option Addr} {cs:List CD} {c k:Nat} (h:SlC w B A cs c) (hk:k < cs.length) :
  ∃ b o,A=some ⟨b,o,none⟩∧b < B∧w.cell? ⟨b,o+k * 7,none⟩=some (.string ⟨(cs[k]'hk).k.toArray⟩)∧w.cell? ⟨b,o+k * 7+1,none⟩=some (.int .u8 (cs[k]'hk).kd)∧w.cell? ⟨b,o+k * 7+2,none⟩=some (.bool (cs[k]'hk).y) ∧
   w.cell? ⟨b,o+k * 7+3,none⟩=some (.int .i64 (cs[k]'hk).n)∧w.cell? ⟨b,o+k * 7+4,none⟩=some (.int .i64 (cs[k]'hk).e)∧w.cell? ⟨b,o+k * 7+5,none⟩=some (.string ⟨(cs[k]'hk).t.toArray⟩)∧w.cell? ⟨b,o+k * 7+6,none⟩=some (.string ⟨(cs[k]'hk).o.toArray⟩)∧OkK (cs[k]'hk):=by
 obtain ⟨b,o,e,hb,hc⟩:=h.rd.flat (m:=7) (fun _=>rfl) hk (by omega);exact ⟨b,o,e,hb,hc 0 _ rfl,hc 1 _ rfl,hc 2 _ rfl,hc 3 _ rfl,hc 4 _ rfl,hc 5 _ rfl,hc 6 _ rfl,h.all _ (List.getElem_mem hk)⟩
end Go.Proofs.YtcpofeehpijbcaaGreatDoor
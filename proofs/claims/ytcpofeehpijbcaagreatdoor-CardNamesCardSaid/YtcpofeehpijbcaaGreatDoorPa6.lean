import Derived.Test.YtcpofeehpijbcaaGreatDoorMg7
import Derived.Defers
import Derived.Recover
import Derived.Laws.Pointers
set_option maxHeartbeats 1000000
set_option maxRecDepth 100000
namespace Go.Proofs.YtcpofeehpijbcaaGreatDoor
open Go.RowKit Go.Lib Go.Shelf
attribute [local go_sem ↓] Go.wp_at_zero Go.wp_at_succ
theorem as_mal (v:Value) (w:World):(Instr.typeAssert (.iface 83 v) 20 83 true).run Tryz.prog w=.ok (.tuple #[v,.bool true]) w:=by kernel_rfl
theorem pcatch_idle (p q:Addr) (w:World) :
  CallsD Tryz.prog 46 #[.pointer (some p),.pointer (some q)] .returning w fun e u' w'=>e=.returned (.tuple #[])∧u'=.returning∧w'=w:=by
 refine callsD_of_wpS Tryz.func46 rfl fun c₀ cs hu=>?_;apply wpS_seq
 apply wpS_region
 simp [wpOpsS,go_sem,recoverD,hu,Tryz.ntmps46,Exit.thenS];refine wpS_of_wp ?_;go_wp2
 cases c₀
 simp_all [bodyPostS,results,Tryz.results46]
theorem pcatch_fall (g1 g2:Nat) (v1 v2:Value) (t1 t2:TypeId) (older:List PanicEntry) (w:World) (h1:BlkV w g1 t1 #[v1]) (h2:BlkV w g2 t2 #[v2]) (hne:g1≠g2) :
  CallsD Tryz.prog 46 #[.pointer (some ⟨g1,0,none⟩),.pointer (some ⟨g2,0,none⟩)] (.panicking ({ v:=.iface 83 (.agg #[]),recovered:=false } :: older)) w fun e u' w'=>
   e=.returned (.tuple #[])∧u'=.panicking ({ v:=.iface 83 (.agg #[]),recovered:=true } :: older)∧∃ o,w'=((w.alloc o).setCell ⟨g1,0,none⟩ (.slice none 0 0)).setCell ⟨g2,0,none⟩ (.int .i64 12):=by
 have k1:=h1.alloc (.cells #[] 83);have k2:=h2.alloc (.cells #[] 83);have c1:=k1.at_ 0 rfl;have f1:=k1.frozen 0;have k3:=k2.far (p:=⟨g1,0,none⟩) (fun h=>hne h.symm) (.slice none 0 0);have c2:=k3.at_ 0 rfl;have f2:=k3.frozen 0;clear h1 h2 k1 k2 k3;refine callsD_of_wpS Tryz.func46 rfl fun c₀ cs hu=>?_;apply wpS_seq
 apply wpS_region
 simp [wpOpsS,go_sem,recoverD,hu,Tryz.ntmps46,Exit.thenS];refine wpS_of_wp ?_;clear hu;have Has:=as_mal;have harr:(#[Value.pointer (some ⟨g1,0,none⟩),Value.pointer (some ⟨g2,0,none⟩)] ++ (Array.replicate 9 undef).setIfInBounds 3 (Value.iface 83 (Value.agg #[])):Array Value)=#[Value.pointer (some ⟨g1,0,none⟩),Value.pointer (some ⟨g2,0,none⟩),undef,undef,undef,Value.iface 83 (Value.agg #[]),undef,undef,undef,undef,undef]:=rfl;rw [harr];clear harr;go_wp2_with fail
 cases c₀
 simp [bodyPostS,results,Tryz.results46];exact ⟨_,rfl⟩
end Go.Proofs.YtcpofeehpijbcaaGreatDoor
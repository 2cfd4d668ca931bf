import Derived.Test.YtgnjhlnolihgcaaGreatRow
import Derived.Test.YtgnjhlnolihgcaaGreatMemV
import Derived.Deep.Strs
set_option maxRecDepth 100000
namespace Go.Proofs.YtgnjhlnolihgcaaGreat
open Go.ChangeShapes Go.WideShapes Go.ChangeAt Go.RowKit Go.Joins
theorem cells_i64:Tryz.prog.cellsOf 2 = 1:=by kernel_rfl
theorem bytes_i64:Tryz.prog.bytesOf 2 = 8:=by kernel_rfl
section
variable {H:Type} {enc:TypeId × Value→H}
theorem open_i64s {W:World} {v:Value} {y:DataW H × List MemPlace} {m:Nat}
  (h:DataW.trod enc Tryz.prog W 0 (fun _=>true) true m 51 [v]=some y)
  (hw:∀ n∈DataW.weights Tryz.prog 51 y.1,n≤reachBytes) :
  ∃ (A:Option Addr) (l:List Int) (c:Nat),v=.slice A l.length c∧SlI W W.heap.size A l c:=by
 rcases open_ints Tryz.underlying51 Tryz.underlying2 cells_i64 h with ⟨e1,_⟩ | ⟨a,len,cap,zs,e1,_,hl,hm,hz,hx,hcell,hwf⟩
 ·simp only [List.cons.injEq,and_true] at e1;subst e1;exact ⟨none,[],0,rfl,SlI.nil _ _ _ _⟩
 ·simp only [List.cons.injEq,and_true] at e1;subst e1;simp only [if_true] at hz
  have hlen:len * 8≤reachBytes:=by
   have:=hw ((zs.take len).length * 8+(zs.drop len).length * 8) (by
    rw [hx];simp [DataW.weights,Tryz.underlying51,bytes_i64,lits,← Nat.add_mul])
   rw [List.length_take,List.length_drop] at this;omega
  have hl2:(zs.take len).length=len:=(by simp; omega);refine ⟨some a,zs.take len,cap,by rw [hl2],⟨fun hp=>?_,fun x hx=>?_,by omega,by have:reachBytes=140737488351232:=rfl; omega⟩⟩
  ·rw [q0p,hl2] at hp;obtain ⟨b,off,spot⟩:=a;have hspot:spot=none:=(by simpa [Addr.add] using World.cell?_spot (hcell 0 (by omega)));subst hspot
   have hc:∀ i v,(cI (zs.take len))[i]? = some v→W.cell? ⟨b,off+i,none⟩=some v:=fun i v hv=>by
    have hi:i < len:=by
     have:=(List.getElem?_eq_some_iff.1 hv).1;rwa [q0p,hl2] at this
    have h1:=hcell i (by omega);rw [add_plain] at h1;rw [h1,← hv];simp [cI,List.getElem?_take_of_lt hi,List.getElem?_eq_getElem (show i < zs.length by omega)]
   refine ⟨b,off,rfl,?_,hc⟩;have:=lt_of_cell (hc 0 _ (List.getElem?_eq_getElem (by rw [q0p,hl2]; exact hp)));simpa using this
  ·exact bounds_i64 (hwf x (List.mem_of_mem_take hx))
end
end Go.Proofs.YtgnjhlnolihgcaaGreat
import Derived.Test.YtgnjhlnolihgcaaGreatOpenI
import Derived.Test.YtgnjhlnolihgcaaGreatCal2
import Derived.Deep.Strs
set_option maxRecDepth 100000
namespace Go.Proofs.YtgnjhlnolihgcaaGreat
open Go.ChangeShapes Go.WideShapes Go.ChangeAt Go.RowKit Go.Joins
theorem cells_field:Tryz.prog.cellsOf 53 = 3:=by kernel_rfl
section
variable {H:Type} {enc:TypeId × Value→H}
theorem open_field {r:Reach} {b0:Nat} {W:World} {v:Value} {d:DataW H} {p:List MemPlace} (hv:Value.okWide Tryz.prog W r b0 53 v)
  (h:DataW.Trod enc Tryz.prog W 0 (fun _=>true) true 53 v d p) (hw:∀ n∈d.weights Tryz.prog 53,n≤reachBytes) :
  ∃ f:FD,v=.agg #[.int .i64 f.W,.int .i64 f.H,.slice f.A f.l.length f.c]∧OkD W W.heap.size f:=by
 obtain ⟨cs,rfl,hsz⟩:=okWide_struct Tryz.underlying53 hv;obtain ⟨v0,v1,v2,rfl⟩:=array3 (hsz.trans cells_field);obtain ⟨fuel,hf⟩:=h;obtain ⟨y0,y1,y2,n,hx,_,h0,h1,h2⟩:=Go.Deep.trod_struct3 Tryz.underlying53 hf;simp only [Prod.mk.injEq] at hx;obtain ⟨rfl,_⟩:=hx;simp [Value.cells,show Tryz.prog.cellsOf 3 = 1 by kernel_rfl,show Tryz.prog.cellsOf 51 = 1 by kernel_rfl] at h0 h1 h2;obtain ⟨n0,e0,_,w0⟩:=DataW.trod_int Tryz.underlying3 h0;obtain ⟨n1,e1,_,w1⟩:=DataW.trod_int Tryz.underlying3 h1;simp only [List.cons.injEq,and_true] at e0 e1;subst e0 e1
 obtain ⟨A,l,c,rfl,s⟩:=open_i64s h2 (fun k hk=>hw k (by
  simp [DataW.weights,DataW.weightsEach,Tryz.underlying53];exact .inr (.inr hk)))
 have b0:=bounds_i64 w0;have b1:=bounds_i64 w1;exact ⟨⟨n0,n1,A,l,c⟩,rfl,⟨s,b0.1,b0.2,b1.1,b1.2⟩⟩
end
end Go.Proofs.YtgnjhlnolihgcaaGreat
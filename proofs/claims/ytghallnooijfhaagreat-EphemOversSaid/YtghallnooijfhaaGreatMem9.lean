import Derived.Test.YtghallnooijfhaaGreatMg13
import Derived.Test.YtghallnooijfhaaGreatMem
namespace Go.Proofs.YtghallnooijfhaaGreat
open Go.RowKit
structure SB (w:World) (n:Bool) (A:Option Addr) (m c:Nat) (W:World):Prop where
 ka:Cw W w.heap.size n A m c
 r:Cw W (w.heap.size+1) false none 0 0
 f:Fw W (w.heap.size+1)
 b:Below w.heap.size w W
section
variable {w W v:World} {n:Bool} {A:Option Addr} {m c:Nat}
theorem SB.keep (h:SB w n A m c W) (hb:Below W.heap.size W v):SB w n A m c v:=⟨h.ka.keep hb,h.r.keep hb,Fw.keep h.f h.r hb,q0a h.b hb⟩
theorem SB.drew (h:SB w n A m c W):SB w n A m c W.drew:=⟨h.ka,h.r,h.f,h.b.drew⟩
theorem SB.alloc (h:SB w n A m c W) (o:Obj):SB w n A m c (W.alloc o):=h.keep (blw1 _ _)
theorem SB.lt (h:SB w n A m c W):w.heap.size+1 < W.heap.size:=lt_of_cell h.r.1
theorem SB.grown {row:Option Nat} (h:SB w n A m c W) (hg:W.grownBy v row) (hr:∀ k,row=some k→w.heap.size+1 < k):SB w n A m c v:=by
 have hlt:=h.lt;have hb:Below (w.heap.size+1+1) W v:=(Below.refl _ _).grown hg (by omega) (fun k e=>hr k e)
 exact ⟨⟨(hb.cell (by simp; omega)).trans h.ka.1,(hb.cell (by simp; omega)).trans h.ka.2⟩,⟨(hb.cell (by simp)).trans h.r.1,(hb.cell (by simp)).trans h.r.2⟩,
  ⟨(hb.frozen (by simp)).trans h.f.1,(hb.frozen (by simp)).trans h.f.2⟩,h.b.trans (hb.mono (by omega))⟩
end
end Go.Proofs.YtghallnooijfhaaGreat
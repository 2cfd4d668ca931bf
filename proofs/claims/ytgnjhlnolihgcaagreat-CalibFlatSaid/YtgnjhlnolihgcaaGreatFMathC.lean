import Derived.Test.YtgnjhlnolihgcaaGreatRegI
import Derived.Test.YtgnjhlnolihgcaaGreatFMath
namespace Go.Proofs.YtgnjhlnolihgcaaGreat
open Go.RowKit
theorem Ff.putF {W:World} {g h:Nat} (f:Ff W h) (x y z u:Value):Ff ((((W.setCell ⟨g,0,none⟩ x).setCell ⟨g,1,none⟩ y).setCell ⟨g,2,none⟩ z).setCell ⟨g,3,none⟩ u) h:=by
 obtain ⟨a,b,c,d⟩:=f;exact ⟨by simpa using a,by simpa using b,by simpa using c,by simpa using d⟩
theorem Cf.neg {W:World} {g:Nat} {n1 n2:Bool} {A1 A2:Option Addr} {m1 c1 m2 c2:Nat} (k:Cf W g n1 A1 m1 c1 n2 A2 m2 c2) (p:Bool) :
  Cf (W.setCell ⟨g,0,none⟩ (.bool p)) g p A1 m1 c1 n2 A2 m2 c2:=by
 obtain ⟨h0,h1,h2,h3⟩:=k;have f:∀ i:Nat,0≠i→(W.setCell ⟨g,0,none⟩ (.bool p)).cell? ⟨g,i,none⟩=W.cell? ⟨g,i,none⟩:=fun i hi=>World.cell?_setCell_other _ _ _ _ (fun e=>hi (by injection e));exact ⟨World.cell?_setCell_same W ⟨g,0,none⟩ (.bool p) h0,(f 1 (by decide)).trans h1,(f 2 (by decide)).trans h2,(f 3 (by decide)).trans h3⟩
theorem Cf.far1 {W:World} {g g':Nat} {n1 n2:Bool} {A1 A2:Option Addr} {m1 c1 m2 c2:Nat} (k:Cf W g n1 A1 m1 c1 n2 A2 m2 c2) (hne:g≠g') (x:Value) :
  Cf (W.setCell ⟨g',0,none⟩ x) g n1 A1 m1 c1 n2 A2 m2 c2:=by
 have f:∀ i:Nat,(W.setCell ⟨g',0,none⟩ x).cell? ⟨g,i,none⟩=W.cell? ⟨g,i,none⟩:=fun i=>World.cell?_setCell_other _ _ _ _ (fun e=>hne (congrArg Addr.block e).symm);obtain ⟨h0,h1,h2,h3⟩:=k;exact ⟨(f 0).trans h0,(f 1).trans h1,(f 2).trans h2,(f 3).trans h3⟩
theorem Sl.setB {w:World} {A:Option Addr} {l:List Nat} {c g:Nat} {b:Bool} (h:Sl w A l c) (q:w.cell? ⟨g,0,none⟩=some (.bool b)) (x:Value):Sl (w.setCell ⟨g,0,none⟩ x) A l c:=by
 refine ⟨fun hl=>?_,h.lim,h.le,h.len⟩;obtain ⟨bb,o,e,hc⟩:=h.rd hl;refine ⟨bb,o,e,fun i hi=>?_⟩;rw [World.cell?_setCell_other _ _ _ _ (fun e2=>?_)]
 ·exact hc i hi
 ·have h1:=hc i hi;rw [← e2,q] at h1;cases h1
section
variable {W:World} {g g':Nat} {v0 v1 v2 v3:Value}
end
end Go.Proofs.YtgnjhlnolihgcaaGreat
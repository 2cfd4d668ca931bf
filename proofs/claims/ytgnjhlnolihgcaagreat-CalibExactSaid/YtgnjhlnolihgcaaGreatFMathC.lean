import Derived.Test.YtgnjhlnolihgcaaGreatFMath
namespace Go.Proofs.YtgnjhlnolihgcaaGreat
open Go.RowKit
theorem Cf.newF {W:World} {g:Nat} {n1 n2:Bool} {A1 A2:Option Addr} {m1 c1 m2 c2:Nat} (k:Cf W g n1 A1 m1 c1 n2 A2 m2 c2) {p1 p2:Bool} {B1 B2:Option Addr} {q1 d1 q2 d2:Nat} :
  Cf ((((W.setCell ⟨g,0,none⟩ (.bool p1)).setCell ⟨g,1,none⟩ (.slice B1 q1 d1)).setCell ⟨g,2,none⟩ (.bool p2)).setCell ⟨g,3,none⟩ (.slice B2 q2 d2)) g p1 B1 q1 d1 p2 B2 q2 d2:=by
 obtain ⟨h0,h1,h2,h3⟩:=k;have ne:∀ i j:Nat,i≠j→(⟨g,i,none⟩:Addr)≠⟨g,j,none⟩:=fun i j hij e=>hij (by injection e);have s0:=World.cell?_setCell_same W ⟨g,0,none⟩ (.bool p1) h0;have s1:=World.cell?_setCell_same (W.setCell ⟨g,0,none⟩ (.bool p1)) ⟨g,1,none⟩ (.slice B1 q1 d1) ((World.cell?_setCell_other _ _ _ _ (ne 0 1 (by decide))).trans h1);have s2:=World.cell?_setCell_same ((W.setCell ⟨g,0,none⟩ (.bool p1)).setCell ⟨g,1,none⟩ (.slice B1 q1 d1)) ⟨g,2,none⟩ (.bool p2) (((World.cell?_setCell_other _ _ _ _ (ne 1 2 (by decide))).trans (World.cell?_setCell_other _ _ _ _ (ne 0 2 (by decide)))).trans h2);have s3:=World.cell?_setCell_same (((W.setCell ⟨g,0,none⟩ (.bool p1)).setCell ⟨g,1,none⟩ (.slice B1 q1 d1)).setCell ⟨g,2,none⟩ (.bool p2)) ⟨g,3,none⟩ (.slice B2 q2 d2) ((((World.cell?_setCell_other _ _ _ _ (ne 2 3 (by decide))).trans (World.cell?_setCell_other _ _ _ _ (ne 1 3 (by decide)))).trans (World.cell?_setCell_other _ _ _ _ (ne 0 3 (by decide)))).trans h3);refine ⟨?_,?_,?_,s3⟩
 ·rw [World.cell?_setCell_other _ _ _ _ (ne 3 0 (by decide)),World.cell?_setCell_other _ _ _ _ (ne 2 0 (by decide)),World.cell?_setCell_other _ _ _ _ (ne 1 0 (by decide))]; exact s0
 ·rw [World.cell?_setCell_other _ _ _ _ (ne 3 1 (by decide)),World.cell?_setCell_other _ _ _ _ (ne 2 1 (by decide))]; exact s1
 ·rw [World.cell?_setCell_other _ _ _ _ (ne 3 2 (by decide))]; exact s2
theorem Cf.farF {W:World} {g g':Nat} {n1 n2:Bool} {A1 A2:Option Addr} {m1 c1 m2 c2:Nat} (k:Cf W g n1 A1 m1 c1 n2 A2 m2 c2) (hne:g≠g') (x y z u:Value) :
  Cf ((((W.setCell ⟨g',0,none⟩ x).setCell ⟨g',1,none⟩ y).setCell ⟨g',2,none⟩ z).setCell ⟨g',3,none⟩ u) g n1 A1 m1 c1 n2 A2 m2 c2:=by
 have f:∀ (i j:Nat) (V:World) (v:Value),(V.setCell ⟨g',j,none⟩ v).cell? ⟨g,i,none⟩=V.cell? ⟨g,i,none⟩:=fun i j V v=>World.cell?_setCell_other _ _ _ _ (fun e=>hne (congrArg Addr.block e).symm);obtain ⟨h0,h1,h2,h3⟩:=k;exact ⟨by rw [f,f,f,f]; exact h0,by rw [f,f,f,f]; exact h1,by rw [f,f,f,f]; exact h2,by rw [f,f,f,f]; exact h3⟩
theorem Ff.putF {W:World} {g h:Nat} (f:Ff W h) (x y z u:Value):Ff ((((W.setCell ⟨g,0,none⟩ x).setCell ⟨g,1,none⟩ y).setCell ⟨g,2,none⟩ z).setCell ⟨g,3,none⟩ u) h:=by
 obtain ⟨a,b,c,d⟩:=f;exact ⟨by simpa using a,by simpa using b,by simpa using c,by simpa using d⟩
theorem Cw.farF {W:World} {g g':Nat} {n:Bool} {A:Option Addr} {m c:Nat} (k:Cw W g n A m c) (hne:g≠g') (x y z u:Value) :
  Cw ((((W.setCell ⟨g',0,none⟩ x).setCell ⟨g',1,none⟩ y).setCell ⟨g',2,none⟩ z).setCell ⟨g',3,none⟩ u) g n A m c:=by
 have f:∀ (i j:Nat) (V:World) (v:Value),(V.setCell ⟨g',j,none⟩ v).cell? ⟨g,i,none⟩=V.cell? ⟨g,i,none⟩:=fun i j V v=>World.cell?_setCell_other _ _ _ _ (fun e=>hne (congrArg Addr.block e).symm);obtain ⟨h0,h1⟩:=k;exact ⟨by rw [f,f,f,f]; exact h0,by rw [f,f,f,f]; exact h1⟩
theorem Cf.neg {W:World} {g:Nat} {n1 n2:Bool} {A1 A2:Option Addr} {m1 c1 m2 c2:Nat} (k:Cf W g n1 A1 m1 c1 n2 A2 m2 c2) (p:Bool) :
  Cf (W.setCell ⟨g,0,none⟩ (.bool p)) g p A1 m1 c1 n2 A2 m2 c2:=by
 obtain ⟨h0,h1,h2,h3⟩:=k;have f:∀ i:Nat,0≠i→(W.setCell ⟨g,0,none⟩ (.bool p)).cell? ⟨g,i,none⟩=W.cell? ⟨g,i,none⟩:=fun i hi=>World.cell?_setCell_other _ _ _ _ (fun e=>hi (by injection e));exact ⟨World.cell?_setCell_same W ⟨g,0,none⟩ (.bool p) h0,(f 1 (by decide)).trans h1,(f 2 (by decide)).trans h2,(f 3 (by decide)).trans h3⟩
theorem Cf.far1 {W:World} {g g':Nat} {n1 n2:Bool} {A1 A2:Option Addr} {m1 c1 m2 c2:Nat} (k:Cf W g n1 A1 m1 c1 n2 A2 m2 c2) (hne:g≠g') (x:Value) :
  Cf (W.setCell ⟨g',0,none⟩ x) g n1 A1 m1 c1 n2 A2 m2 c2:=by
 have f:∀ i:Nat,(W.setCell ⟨g',0,none⟩ x).cell? ⟨g,i,none⟩=W.cell? ⟨g,i,none⟩:=fun i=>World.cell?_setCell_other _ _ _ _ (fun e=>hne (congrArg Addr.block e).symm);obtain ⟨h0,h1,h2,h3⟩:=k;exact ⟨(f 0).trans h0,(f 1).trans h1,(f 2).trans h2,(f 3).trans h3⟩
theorem Sl.setB {w:World} {A:Option Addr} {l:List Nat} {c g:Nat} {b:Bool} (h:Sl w A l c) (q:w.cell? ⟨g,0,none⟩=some (.bool b)) (x:Value):Sl (w.setCell ⟨g,0,none⟩ x) A l c:=by
 refine ⟨fun hl=>?_,h.lim,h.le,h.len⟩;obtain ⟨bb,o,e,hc⟩:=h.rd hl;refine ⟨bb,o,e,fun i hi=>?_⟩;rw [World.cell?_setCell_other _ _ _ _ (fun e2=>?_)]
 ·exact hc i hi
 ·have h1:=hc i hi;rw [← e2,q] at h1;cases h1
section
variable {W:World} {g g':Nat} {v0 v1 v2 v3:Value}
end
end Go.Proofs.YtgnjhlnolihgcaaGreat
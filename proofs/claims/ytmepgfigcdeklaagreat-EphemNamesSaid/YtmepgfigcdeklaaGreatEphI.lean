import Derived.Test.YtmepgfigcdeklaaGreatMg7
import Derived.Test.YtmepgfigcdeklaaGreatRegI
namespace Go.Proofs.YtmepgfigcdeklaaGreat
open Go.RowKit
def IsF (w:World) (v:Value) (q:Rat):Prop:=∃ A c B d,v=.agg #[.bool (frQ q).1.1,.slice A (frQ q).1.2.length c,.bool (frQ q).2.1,.slice B (frQ q).2.2.length d]∧Sl w A (frQ q).1.2 c∧Sl w B (frQ q).2.2 d
def Is2 (w:World) (v:Value) (p q:Rat):Prop:=∃ A c B d A' c' B' d',v=.tuple #[.agg #[.bool (frQ p).1.1,.slice A (frQ p).1.2.length c,.bool (frQ p).2.1,.slice B (frQ p).2.2.length d],.agg #[.bool (frQ q).1.1,.slice A' (frQ q).1.2.length c',.bool (frQ q).2.1,.slice B' (frQ q).2.2.length d']]∧Sl w A (frQ p).1.2 c∧Sl w B (frQ p).2.2 d∧Sl w A' (frQ q).1.2 c'∧Sl w B' (frQ q).2.2 d'
def IsB (b:Nat) (w:World) (v:Value):Prop:=∃ g n1 A1 m1 c1 n2 A2 m2 c2,v=.pointer (some ⟨g,0,none⟩)∧b≤g∧Cf w g n1 A1 m1 c1 n2 A2 m2 c2∧Ff w g
def IsS (w:World) (v:Value) (q:Rat):Prop:=∃ g A c B d,v=.pointer (some ⟨g,0,none⟩)∧BxQ w g q A c B d
section
variable {w w':World} {v:Value} {p q:Rat} {b g':Nat} {n1 n2:Bool} {A1 A2:Option Addr} {m1 c1 m2 c2:Nat}
theorem IsF.keep (h:IsF w v q) (hb:Below w.heap.size w w'):IsF w' v q:=by
 obtain ⟨A,c,B,d,e,s,t⟩:=h;exact ⟨A,c,B,d,e,s.below hb,t.below hb⟩
theorem Is2.keep (h:Is2 w v p q) (hb:Below w.heap.size w w'):Is2 w' v p q:=by
 obtain ⟨A,c,B,d,A',c',B',d',e,s,t,s',t'⟩:=h;exact ⟨A,c,B,d,A',c',B',d',e,s.below hb,t.below hb,s'.below hb,t'.below hb⟩
theorem IsB.keep (h:IsB b w v) (hb:Below w.heap.size w w'):IsB b w' v:=by
 obtain ⟨g,n1,A1,m1,c1,n2,A2,m2,c2,e,hg,k,f⟩:=h;exact ⟨g,n1,A1,m1,c1,n2,A2,m2,c2,e,hg,k.keep hb,f.keep k hb⟩
theorem IsS.keep (h:IsS w v q) (hb:Below w.heap.size w w'):IsS w' v q:=by
 obtain ⟨g,A,c,B,d,e,x⟩:=h;exact ⟨g,A,c,B,d,e,x.keep hb⟩
theorem IsF.st (h:IsF w v q) (k:Cf w g' n1 A1 m1 c1 n2 A2 m2 c2) (x y z u:Value):IsF (((((w).setCell ⟨g',0,none⟩ (x)).setCell ⟨g',1,none⟩ (y)).setCell ⟨g',2,none⟩ (z)).setCell ⟨g',3,none⟩ (u)) v q:=by
 obtain ⟨A,c,B,d,e,s,t⟩:=h;exact ⟨A,c,B,d,e,s.setF k x y z u,t.setF k x y z u⟩
theorem Is2.st (h:Is2 w v p q) (k:Cf w g' n1 A1 m1 c1 n2 A2 m2 c2) (x y z u:Value):Is2 (((((w).setCell ⟨g',0,none⟩ (x)).setCell ⟨g',1,none⟩ (y)).setCell ⟨g',2,none⟩ (z)).setCell ⟨g',3,none⟩ (u)) v p q:=by
 obtain ⟨A,c,B,d,A',c',B',d',e,s,t,s',t'⟩:=h;exact ⟨A,c,B,d,A',c',B',d',e,s.setF k x y z u,t.setF k x y z u,s'.setF k x y z u,t'.setF k x y z u⟩
theorem IsS.st (h:IsS w v q) (k:Cf w g' n1 A1 m1 c1 n2 A2 m2 c2) (hne:v≠.pointer (some ⟨g',0,none⟩)) (x y z u:Value):IsS (((((w).setCell ⟨g',0,none⟩ (x)).setCell ⟨g',1,none⟩ (y)).setCell ⟨g',2,none⟩ (z)).setCell ⟨g',3,none⟩ (u)) v q:=by
 obtain ⟨g,A,c,B,d,rfl,hx⟩:=h;exact ⟨g,A,c,B,d,rfl,hx.far k (fun e=>hne (by rw [e])) x y z u⟩
theorem IsB.st (h:IsB b w v) (hne:v≠.pointer (some ⟨g',0,none⟩)) (x y z u:Value):IsB b (((((w).setCell ⟨g',0,none⟩ (x)).setCell ⟨g',1,none⟩ (y)).setCell ⟨g',2,none⟩ (z)).setCell ⟨g',3,none⟩ (u)) v:=by
 obtain ⟨g,n1,A1,m1,c1,n2,A2,m2,c2,rfl,hg,kk,f⟩:=h;exact ⟨g,n1,A1,m1,c1,n2,A2,m2,c2,rfl,hg,kk.farF (fun e=>hne (by rw [e])) x y z u,f.putF x y z u⟩
theorem IsB.fresh (hb:b≤w.heap.size):IsB b (w.alloc (.cells #[.bool false,.slice none 0 0,.bool false,.slice none 0 0] 49)) (.pointer (some ⟨w.heap.size,0,none⟩)):=
 ⟨_,false,none,0,0,false,none,0,0,rfl,hb,Cf.fresh rfl _ _ _ _ _ _ _ _ _,Ff.fresh rfl _ _⟩
theorem IsB.ne (h:IsB b w v):v≠.pointer (some ⟨w.heap.size,0,none⟩):=by
 obtain ⟨g,n1,A1,m1,c1,n2,A2,m2,c2,rfl,hg,k,f⟩:=h;intro e;have h1:=lt_of_cell (a:=⟨g,0,none⟩) k.1;injection e with e; injection e with e; injection e with e
 have h1:g < w.heap.size:=h1;omega
end
end Go.Proofs.YtmepgfigcdeklaaGreat
import Derived.Test.YtgnjhlnolihgcaaGreatRegI
import Derived.Test.YtgnjhlnolihgcaaGreatMem
import Derived.Deep.RegionHeld3
namespace Go.Proofs.YtgnjhlnolihgcaaGreat
open Go.RowKit
end Go.Proofs.YtgnjhlnolihgcaaGreat
namespace Go.Proofs.YtgnjhlnolihgcaaGreat
open Go.RowKit
section
variable {a:Act} {s1 s2 s3 s4 s5 s6 t:Nat}
end
def SAB (ga:Nat) (na:Bool) (A1:Option Addr) (m1 c1:Nat) (gb:Nat) (nb:Bool) (A2:Option Addr) (m2 c2:Nat) (W:World):Prop:=Cw W ga na A1 m1 c1∧Cw W gb nb A2 m2 c2
structure PI (w:World) (S:World→Prop) (la lb:List Nat) (na nb:Bool) (VA VB:Value) (gb:Nat) (d0 d1 d2 d3 d4 d5 d6 d7:Bool) (u1 u2 u3 u4 u5 u6:Value) (W:World) (o5 o6:Option (Nat × Bool × Option Addr × Nat × Nat)) (x1 x2:Option (Option Addr × Nat)):Prop where
 rs:RS w S la lb o5 o6 x1 x2 W
 p0:d0=true→u1=VA
 p2:d2=true→u3=VB
 p1:d1=false→x1=none
 q1:d1=true→∃ A c,x1=some (A,c)∧u2=.agg #[.bool na,.slice A la.length c]
 p3:d3=false→x2=none
 q3:d3=true→∃ A c,x2=some (A,c)∧u4=.agg #[.bool nb,.slice A lb.length c]
 p4:d4=false→o5=none
 q4:d4=true→∃ g v,u5=.pointer (some ⟨g,0,none⟩)∧o5=some (g,v)∧gb < g∧(d6=false→v=(false,none,0,0))∧(d6=true→∃ A c,x1=some (A,c)∧v=(na,A,la.length,c))
 p5:d5=false→o6=none
 q5:d5=true→∃ g v,u6=.pointer (some ⟨g,0,none⟩)∧o6=some (g,v)∧gb < g∧(d7=false→v=(false,none,0,0))∧(d7=true→∃ A c,x2=some (A,c)∧v=(nb,A,lb.length,c))
 n6:d6=true→d1=true
 n7:d7=true→d3=true
 m6:d6=true→d4=true
 m7:d7=true→d5=true
 pd:∀ g v g' v',o5=some (g,v)→o6=some (g',v')→g'≠g
section
variable {w W v:World} {la lb:List Nat} {na nb:Bool} {VA VB:Value} {ga gb:Nat} {A1 A2:Option Addr} {m1 c1 m2 c2:Nat} {d0 d1 d2 d3 d4 d5 d6 d7:Bool} {u1 u2 u3 u4 u5 u6:Value} {o5 o6:Option (Nat × Bool × Option Addr × Nat × Nat)} {x1 x2:Option (Option Addr × Nat)} {ka kb:Bool}
theorem PI.start (hb:Below w.heap.size w W) (hS:(SAB ga ka A1 m1 c1 gb kb A2 m2 c2) W):PI w (SAB ga ka A1 m1 c1 gb kb A2 m2 c2) la lb na nb VA VB gb false false false false false false false false u1 u2 u3 u4 u5 u6 W none none none none:=
 ⟨RS.start hb hS,fun h=>(by cases h),fun h=>(by cases h),fun _=>rfl,fun h=>(by cases h),fun _=>rfl,fun h=>(by cases h),fun _=>rfl,fun h=>(by cases h),fun _=>rfl,fun h=>(by cases h),fun h=>(by cases h),fun h=>(by cases h),fun h=>(by cases h),fun h=>(by cases h),fun _ _ _ _ h=>(by cases h)⟩
theorem PI.done (h:PI w (SAB ga ka A1 m1 c1 gb kb A2 m2 c2) la lb na nb VA VB gb d0 d1 d2 d3 true true true true u1 u2 u3 u4 u5 u6 W o5 o6 x1 x2) :
  ∃ g5 g6 A5 c5 A6 c6,u5=.pointer (some ⟨g5,0,none⟩)∧u6=.pointer (some ⟨g6,0,none⟩)∧gb < g5∧gb < g6∧RS w (SAB ga ka A1 m1 c1 gb kb A2 m2 c2) la lb (some (g5,na,A5,la.length,c5)) (some (g6,nb,A6,lb.length,c6)) (some (A5,c5)) (some (A6,c6)) W:=by
 obtain ⟨g5,v5,rfl,rfl,h5,_,k5⟩:=h.q4 rfl;obtain ⟨g6,v6,rfl,rfl,h6,_,k6⟩:=h.q5 rfl;obtain ⟨A5,c5,rfl,rfl⟩:=k5 rfl;obtain ⟨A6,c6,rfl,rfl⟩:=k6 rfl;exact ⟨g5,g6,A5,c5,A6,c6,rfl,rfl,h5,h6,h.rs⟩
end
end Go.Proofs.YtgnjhlnolihgcaaGreat
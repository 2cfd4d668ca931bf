import Derived.Test.YtgnjhlnolihgcaaGreatRegI
import Derived.Test.YtgnjhlnolihgcaaGreatF10
import Derived.Test.YtgnjhlnolihgcaaGreatInv
import Derived.Deep.RegionHeld3
namespace Go.Proofs.YtgnjhlnolihgcaaGreat
open Go.RowKit
attribute [local go_sem ↓] Go.wp_at_zero Go.wp_at_succ
theorem cell_far {w:World} {g h i j:Nat} (hne:h≠g) (x:Value):(w.setCell ⟨g,j,none⟩ x).cell? ⟨h,i,none⟩=w.cell? ⟨h,i,none⟩:=
 World.cell?_setCell_other _ _ _ _ (by intro e; exact hne (congrArg Addr.block e).symm)
theorem far1 {w:World} {g h j:Nat} {v0 v1 v2 v3:Value} (hne:h≠g) (x:Value) (k:w.cell? ⟨h,0,none⟩=some v0∧w.cell? ⟨h,1,none⟩=some v1∧w.cell? ⟨h,2,none⟩=some v2∧w.cell? ⟨h,3,none⟩=some v3) :
  (w.setCell ⟨g,j,none⟩ x).cell? ⟨h,0,none⟩=some v0∧(w.setCell ⟨g,j,none⟩ x).cell? ⟨h,1,none⟩=some v1∧(w.setCell ⟨g,j,none⟩ x).cell? ⟨h,2,none⟩=some v2∧(w.setCell ⟨g,j,none⟩ x).cell? ⟨h,3,none⟩=some v3:=
 ⟨(cell_far hne x).trans k.1,(cell_far hne x).trans k.2.1,(cell_far hne x).trans k.2.2.1,(cell_far hne x).trans k.2.2.2⟩
end Go.Proofs.YtgnjhlnolihgcaaGreat
namespace Go.Proofs.YtgnjhlnolihgcaaGreat
open Go.RowKit
attribute [local go_sem ↓] Go.wp_at_zero Go.wp_at_succ
end Go.Proofs.YtgnjhlnolihgcaaGreat
namespace Go.Proofs.YtgnjhlnolihgcaaGreat
open Go.RowKit
attribute [local go_sem ↓] Go.wp_at_zero Go.wp_at_succ
def OpIsF (ops:Array Oper) (i:Nat) (d:Option Tmp) (op:Op) (waits:List Nat):Prop:=
 ∃ o,ops[i]? = some o∧o.dst=d∧o.op=op∧o.guard=none∧∀ k∈waits,∃ e∈o.after,e.on=k∧Region.binds .any e=true
theorem OpIsF.take {ops:Array Oper} {i:Nat} {d:Option Tmp} {op:Op} {ws:List Nat} (h:OpIsF ops i d op ws) {l:Array Bool} (hr:i < ops.size∧l.getD i true=false∧∀ o,ops[i]? = some o→∀ e∈o.after,Region.binds .any e=true→l.getD e.on false=true) :
  l.getD i true=false∧(∀ k∈ws,l.getD k false=true)∧∃ ty pos after,ops[i]? = some ⟨d,op,ty,pos,after,none⟩:=by
 obtain ⟨⟨dst,op',ty,pos,after,guard⟩,hi,rfl,rfl,hg,hw⟩:=h;simp only at hg;subst hg;refine ⟨hr.2.1,fun k hk=>?_,ty,pos,after,hi⟩;obtain ⟨e,he,rfl,hb⟩:=hw k hk;exact hr.2.2 _ hi e he hb
structure FV where
 n1:Bool
 A1:Option Addr
 m1:Nat
 c1:Nat
 n2:Bool
 A2:Option Addr
 m2:Nat
 c2:Nat
@[reducible] def FV.val (v:FV):Value:=.agg #[.bool v.n1,.slice v.A1 v.m1 v.c1,.bool v.n2,.slice v.A2 v.m2 v.c2]
def CF (W:World) (g:Nat) (v:FV):Prop:=Cf W g v.n1 v.A1 v.m1 v.c1 v.n2 v.A2 v.m2 v.c2
@[reducible] def zf:FV:=⟨false,none,0,0,false,none,0,0⟩
@[reducible] def putF (W:World) (g:Nat) (v:FV):World:=(((W.setCell ⟨g,0,none⟩ (.bool v.n1)).setCell ⟨g,1,none⟩ (.slice v.A1 v.m1 v.c1)).setCell ⟨g,2,none⟩ (.bool v.n2)).setCell ⟨g,3,none⟩ (.slice v.A2 v.m2 v.c2)
theorem CF.keep {W W':World} {g:Nat} {v:FV} (h:CF W g v) (hb:Below W.heap.size W W'):CF W' g v:=Cf.keep h hb
theorem CF.put {W:World} {g h:Nat} {v u:FV} (k:CF W h u) (hne:h≠g):CF (putF W g v) h u:=
 far1 hne _ (far1 hne _ (far1 hne _ (far1 hne _ k)))
theorem CF.new {W:World} {g:Nat} {v u:FV} (k:CF W g u):CF (putF W g v) g v:=by
 obtain ⟨h0,h1,h2,h3⟩:=k;have ne:∀ i j:Nat,i≠j→(⟨g,i,none⟩:Addr)≠⟨g,j,none⟩:=fun i j hij e=>hij (by injection e);refine ⟨?_,?_,?_,?_⟩
 ·rw [World.cell?_setCell_other _ _ _ _ (ne 3 0 (by decide)),World.cell?_setCell_other _ _ _ _ (ne 2 0 (by decide)),World.cell?_setCell_other _ _ _ _ (ne 1 0 (by decide)),World.cell?_setCell_same _ _ _ h0]
 ·rw [World.cell?_setCell_other _ _ _ _ (ne 3 1 (by decide)),World.cell?_setCell_other _ _ _ _ (ne 2 1 (by decide)),World.cell?_setCell_same _ _ _ ((World.cell?_setCell_other _ _ _ _ (ne 0 1 (by decide))).trans h1)]
 ·rw [World.cell?_setCell_other _ _ _ _ (ne 3 2 (by decide)),World.cell?_setCell_same _ _ _ ((World.cell?_setCell_other _ _ _ _ (ne 1 2 (by decide))).trans ((World.cell?_setCell_other _ _ _ _ (ne 0 2 (by decide))).trans h2))]
 ·exact World.cell?_setCell_same _ _ _ ((World.cell?_setCell_other _ _ _ _ (ne 2 3 (by decide))).trans ((World.cell?_setCell_other _ _ _ _ (ne 1 3 (by decide))).trans ((World.cell?_setCell_other _ _ _ _ (ne 0 3 (by decide))).trans h3)))
structure PF (w:World) (ga gb:Nat) (va vb:FV) (Ta Tb:World→FV→Prop) (d0 d1 d2 d3 d4 d5 d6 d7:Bool) (u1 u2 u3 u4 u5 u6:Value) (W:World) (o5 o6:Option (Nat × FV)) (x1 x2:Option FV):Prop where
 b:Below w.heap.size w W
 ka:CF W ga va
 kb:CF W gb vb
 k5:∀ g v,o5=some (g,v)→CF W g v∧Ff W g
 k6:∀ g v,o6=some (g,v)→CF W g v∧Ff W g
 s1:∀ v,x1=some v→Ta W v
 s2:∀ v,x2=some v→Tb W v
 p0:d0=true→u1=va.val
 p2:d2=true→u3=vb.val
 p1:d1=false→x1=none
 q1:d1=true→∃ v,x1=some v∧u2=v.val
 p3:d3=false→x2=none
 q3:d3=true→∃ v,x2=some v∧u4=v.val
 p4:d4=false→o5=none
 q4:d4=true→∃ g v,u5=.pointer (some ⟨g,0,none⟩)∧o5=some (g,v)∧gb < g∧(d6=false→v=zf)∧(d6=true→x1=some v)
 p5:d5=false→o6=none
 q5:d5=true→∃ g v,u6=.pointer (some ⟨g,0,none⟩)∧o6=some (g,v)∧gb < g∧(d7=false→v=zf)∧(d7=true→x2=some v)
 n6:d6=true→d1=true
 n7:d7=true→d3=true
 m6:d6=true→d4=true
 m7:d7=true→d5=true
 pd:∀ g v g' v',o5=some (g,v)→o6=some (g',v')→g'≠g
section
variable {w W W':World} {ga gb:Nat} {va vb:FV} {Ta Tb:World→FV→Prop} {d0 d1 d2 d3 d4 d5 d6 d7:Bool} {u1 u2 u3 u4 u5 u6:Value} {o5 o6:Option (Nat × FV)} {x1 x2:Option FV}
theorem PF.start (hb:Below w.heap.size w W) (ha:CF W ga va) (hb':CF W gb vb):PF w ga gb va vb Ta Tb false false false false false false false false u1 u2 u3 u4 u5 u6 W none none none none:=
 ⟨hb,ha,hb',fun _ _ h=>(by cases h),fun _ _ h=>(by cases h),fun _ h=>(by cases h),fun _ h=>(by cases h),fun h=>(by cases h),fun h=>(by cases h),fun _=>rfl,fun h=>(by cases h),fun _=>rfl,fun h=>(by cases h),fun _=>rfl,fun h=>(by cases h),fun _=>rfl,fun h=>(by cases h),fun h=>(by cases h),fun h=>(by cases h),fun h=>(by cases h),fun h=>(by cases h),fun _ _ _ _ h=>(by cases h)⟩
theorem PF.done (h:PF w ga gb va vb Ta Tb d0 d1 d2 d3 true true true true u1 u2 u3 u4 u5 u6 W o5 o6 x1 x2) :
  ∃ g5 g6 v5 v6,u5=.pointer (some ⟨g5,0,none⟩)∧u6=.pointer (some ⟨g6,0,none⟩)∧gb < g5∧gb < g6∧CF W g5 v5∧CF W g6 v6∧Ta W v5∧Tb W v6:=by
 obtain ⟨g5,v5,rfl,rfl,h5,_,k5⟩:=h.q4 rfl;obtain ⟨g6,v6,rfl,rfl,h6,_,k6⟩:=h.q5 rfl;exact ⟨g5,g6,v5,v6,rfl,rfl,h5,h6,(h.k5 _ _ rfl).1,(h.k6 _ _ rfl).1,h.s1 _ (k5 rfl),h.s2 _ (k6 rfl)⟩
end
section
variable {K:Act→World→Prop} {Q:Exit→Act→World→Prop} {a:Act} {W:World} {d:Option Tmp} {ty:TypeId} {pos:String} {after:Array Edge} {s s' g:Nat} {v:FV}
end
end Go.Proofs.YtgnjhlnolihgcaaGreat
import Derived.Test.YtghallnooijfhaaGreatCal2
import Derived.Test.YtghallnooijfhaaGreatMg10
import Derived.Test.YtghallnooijfhaaGreatW8
import Derived.Deep.RegionHeld3
namespace Go.Proofs.YtghallnooijfhaaGreat
open Go.RowKit
attribute [local go_sem ↓] Go.wp_at_zero Go.wp_at_succ
structure St (g:Nat) (x x':Int) (w w':World):Prop where
 but:But g w w'
 cell:BlkV w' g 127 #[.int .i64 x']
end Go.Proofs.YtghallnooijfhaaGreat
namespace Go.Proofs.YtghallnooijfhaaGreat
open Go.RowKit
attribute [local go_sem ↓] Go.wp_at_zero Go.wp_at_succ
end Go.Proofs.YtghallnooijfhaaGreat
namespace Go.Proofs.YtghallnooijfhaaGreat
open Go.RowKit
attribute [local go_sem ↓] Go.wp_at_zero Go.wp_at_succ
end Go.Proofs.YtghallnooijfhaaGreat
namespace Go.Proofs.YtghallnooijfhaaGreat
open Go.RowKit
attribute [local go_sem ↓] Go.wp_at_zero Go.wp_at_succ
structure FV where
 n1:Bool
 A1:Option Addr
 m1:Nat
 c1:Nat
 n2:Bool
 A2:Option Addr
 m2:Nat
 c2:Nat
@[reducible] def FV.val (v:FV):Value:=.agg #[.bool v.n1,.slice v.A1 v.m1 v.c1,.bool v.n2,.slice v.A2 v.m2 v.c2]
@[reducible] def zf:FV:=⟨false,none,0,0,false,none,0,0⟩
@[reducible] def putF (W:World) (g:Nat) (v:FV):World:=(((W.setCell ⟨g,0,none⟩ (.bool v.n1)).setCell ⟨g,1,none⟩ (.slice v.A1 v.m1 v.c1)).setCell ⟨g,2,none⟩ (.bool v.n2)).setCell ⟨g,3,none⟩ (.slice v.A2 v.m2 v.c2)
section
variable {w W W':World} {ga gb:Nat} {va vb:FV} {Ta Tb:World→FV→Prop} {d0 d1 d2 d3 d4 d5 d6 d7:Bool} {u1 u2 u3 u4 u5 u6:Value} {o5 o6:Option (Nat × FV)} {x1 x2:Option FV}
end
section
variable {K:Act→World→Prop} {Q:Exit→Act→World→Prop} {a:Act} {W:World} {d:Option Tmp} {ty:TypeId} {pos:String} {after:Array Edge} {s s' g:Nat} {v:FV}
end
end Go.Proofs.YtghallnooijfhaaGreat
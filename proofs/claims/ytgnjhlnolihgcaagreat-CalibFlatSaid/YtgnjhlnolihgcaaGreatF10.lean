import Derived.Test.YtgnjhlnolihgcaaGreatRegI
import Derived.Test.YtgnjhlnolihgcaaGreatF6
namespace Go.Proofs.YtgnjhlnolihgcaaGreat
open Go.RowKit
attribute [local go_sem ↓] Go.wp_at_zero Go.wp_at_succ
theorem FRes.alloc {r:((Bool × List Nat) × (Bool × List Nat)) × Int} {w w':World} {e:Ending} (h:FRes r w e w') (o:Obj):FRes r w e (w'.alloc o):=by
 obtain ⟨A,c,A',c',rfl,h1,h2,hb⟩:=h;exact ⟨A,c,A',c',rfl,h1.alloc o,h2.alloc o,q0a hb (blw1 _ _)⟩
end Go.Proofs.YtgnjhlnolihgcaaGreat
namespace Go.Proofs.YtgnjhlnolihgcaaGreat
open Go.RowKit
attribute [local go_sem ↓] Go.wp_at_zero Go.wp_at_succ
end Go.Proofs.YtgnjhlnolihgcaaGreat
namespace Go.Proofs.YtgnjhlnolihgcaaGreat
open Go.RowKit
attribute [local go_sem ↓] Go.wp_at_zero Go.wp_at_succ
end Go.Proofs.YtgnjhlnolihgcaaGreat
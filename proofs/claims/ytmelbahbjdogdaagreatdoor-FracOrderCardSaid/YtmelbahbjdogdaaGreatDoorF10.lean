/- Walks: the reference's both, added, product, Add, Sub, Mul, Div. -/
import Derived.Test.YtmelbahbjdogdaaGreatDoorF3
import Derived.Test.YtmelbahbjdogdaaGreatDoorFMath
import Derived.Test.YtmelbahbjdogdaaGreatDoorF6
import Derived.Test.YtmelbahbjdogdaaGreatDoorW6
import Derived.Test.YtmelbahbjdogdaaGreatDoorW10
import Derived.Test.YtmelbahbjdogdaaGreatDoorW18
import Derived.Test.YtmelbahbjdogdaaGreatDoorMath
namespace Go.Proofs.YtmelbahbjdogdaaGreatDoor
open Go.RowKit
attribute [local go_sem ↓] Go.wp_at_zero Go.wp_at_succ
theorem FRes.alloc {r : ((Bool × List Nat) × (Bool × List Nat)) × Int} {w w' : World} {e : Ending} (h : FRes r w e w') (o : Obj) : FRes r w e (w'.alloc o) := by
  obtain ⟨A, c, A', c', rfl, h1, h2, hb⟩ := h
  exact ⟨A, c, A', c', rfl, h1.alloc o, h2.alloc o, below_mono hb (blw1 _ _)⟩

end Go.Proofs.YtmelbahbjdogdaaGreatDoor
/- Walks: the reference's both, added, product, Add, Sub, Mul, Div. -/
namespace Go.Proofs.YtmelbahbjdogdaaGreatDoor
open Go.RowKit
attribute [local go_sem ↓] Go.wp_at_zero Go.wp_at_succ
end Go.Proofs.YtmelbahbjdogdaaGreatDoor
/- Walks: the reference's both, added, product, Add, Sub, Mul, Div. -/
namespace Go.Proofs.YtmelbahbjdogdaaGreatDoor
open Go.RowKit
attribute [local go_sem ↓] Go.wp_at_zero Go.wp_at_succ
end Go.Proofs.YtmelbahbjdogdaaGreatDoor

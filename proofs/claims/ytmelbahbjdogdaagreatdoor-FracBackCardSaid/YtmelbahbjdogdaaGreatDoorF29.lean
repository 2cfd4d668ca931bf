/- The walk of the law FracNearest. -/
import Derived.Test.YtmelbahbjdogdaaGreatDoorF26
import Derived.Test.YtmelbahbjdogdaaGreatDoorF16
namespace Go.Proofs.YtmelbahbjdogdaaGreatDoor
open Go.RowKit
attribute [local go_sem ↓] Go.wp_at_zero Go.wp_at_succ
theorem alive_true2 (w : World) : Calls Tryz.prog 17 #[] w fun e w' => e = .returned (.bool true) ∧ Below w.heap.size w w' := alive_any w

end Go.Proofs.YtmelbahbjdogdaaGreatDoor

/- Walks: frac.cross, frac.both. -/
import Derived.Test.YtmelbahbjdogdaaGreatDoorF3
import Derived.Test.YtmelbahbjdogdaaGreatDoorW19
import Derived.Test.YtmelbahbjdogdaaGreatDoorFMath
import Derived.Deep.RegionHeld3
import Derived.Deep.RegionHeld2
namespace Go.Proofs.YtmelbahbjdogdaaGreatDoor
open Go.RowKit
attribute [local go_sem ↓] Go.wp_at_zero Go.wp_at_succ
theorem outZ_bad {z : Int} (h : ¬ fitZ z) : outZ z = ((false, []), 16) := by
  unfold outZ outN
  exact if_neg h

end Go.Proofs.YtmelbahbjdogdaaGreatDoor
/- Walks: the calculations of frac.Add, Sub, Mul, Div. -/
namespace Go.Proofs.YtmelbahbjdogdaaGreatDoor
open Go.RowKit
attribute [local go_sem ↓] Go.wp_at_zero Go.wp_at_succ
end Go.Proofs.YtmelbahbjdogdaaGreatDoor
/- Walks: the calculations of frac.Add, Sub, Mul, Div. -/
namespace Go.Proofs.YtmelbahbjdogdaaGreatDoor
open Go.RowKit
attribute [local go_sem ↓] Go.wp_at_zero Go.wp_at_succ
end Go.Proofs.YtmelbahbjdogdaaGreatDoor

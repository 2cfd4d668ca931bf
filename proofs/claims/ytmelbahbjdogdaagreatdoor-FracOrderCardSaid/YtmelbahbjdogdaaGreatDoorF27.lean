/- The walk of the law FracField. -/
import Derived.Test.YtmelbahbjdogdaaGreatDoorF26
import Derived.Test.YtmelbahbjdogdaaGreatDoorF13
import Derived.Test.YtmelbahbjdogdaaGreatDoorFMath
namespace Go.Proofs.YtmelbahbjdogdaaGreatDoor
open Go.RowKit
attribute [local go_sem ↓] Go.wp_at_zero Go.wp_at_succ
theorem long_facts3 {na nb nc nd ne nf : Bool} {la lb lc ld le lf : List Nat} (h1 : Lim la) (h2 : Lim lb) (h3 : Lim lc) (h4 : Lim ld) (h5 : Lim le) (h6 : Lim lf) (h : longF na la nb lb nc lc nd ld ne le nf lf = false) :
    VFk 20 na la nb lb (zv na la) (zv nb lb) ∧ VFk 20 nc lc nd ld (zv nc lc) (zv nd ld) ∧ VFk 20 ne le nf lf (zv ne le) (zv nf lf) := by
  unfold longF at h
  simp only [Bool.or_eq_false_iff, decide_eq_false_iff_not] at h
  obtain ⟨⟨⟨⟨⟨k1, k2⟩, k3⟩, k4⟩, k5⟩, k6⟩ := h
  have f1 := fewS_le (show fewS la lb ≤ 20 by omega)
  have f2 := fewS_le (show fewS lc ld ≤ 20 by omega)
  have f3 := fewS_le (show fewS le lf ≤ 20 by omega)
  exact ⟨vfk_of (vf_of h1 h2 k1) f1.1 f1.2, vfk_of (vf_of h3 h4 k2) f2.1 f2.2, vfk_of (vf_of h5 h6 k3) f3.1 f3.2⟩

theorem alive_true (w : World) : Calls Tryz.prog 17 #[] w fun e w' => e = .returned (.bool true) ∧ Below w.heap.size w w' := alive_any w

end Go.Proofs.YtmelbahbjdogdaaGreatDoor

import Derived.Test.YtgkamalgokebgaaDoorCd3
namespace Go.Proofs.YtgkamalgokebgaaDoor
open Go.RowKit Go.Lib Go.Shelf
attribute [local go_sem ↓] Go.wp_at_zero Go.wp_at_succ
theorem small0 (w : World) : Calls Tryd.prog 58 #[.int .i64 0] w fun e w' => e = .returned (.string ⟨#[48]⟩) ∧ w' = w := by
  have h := Tryd.internal_strconv_small 0 (by omega) w
  have e : Lib.decDigits 0 = [48] := by decide +kernel
  rw [e] at h
  exact h

set_option maxRecDepth 100000 in
set_option maxHeartbeats 4000000 in
theorem ifmt0 (w : World) : Calls Tryd.prog 40 #[.int .u64 0, .int .i64 10] w fun e w' => e = .returned (.string ⟨#[48]⟩) ∧ Below w.heap.size w w' := by
  have SM := Lib.hid small0
  go_enter Tryd.func40, Tryd.ntmps40
  go_wp2_with fail
  refine (SM.out _).mono ?_
  rintro e w1 ⟨rfl, rfl⟩
  go_wp2
  go_ret
  exact ⟨rfl, Below.refl _ _⟩

set_option maxRecDepth 100000 in
set_option maxHeartbeats 4000000 in
theorem fmt0 (w : World) : Calls Tryd.prog 23 #[.int .u64 0, .int .i64 10] w fun e w' => e = .returned (.string ⟨#[48]⟩) ∧ Below w.heap.size w w' := by
  have SM := Lib.hid ifmt0
  go_enter Tryd.func23, Tryd.ntmps23
  go_wp2_with fail
  refine (SM.out _).mono ?_
  rintro e w1 ⟨rfl, hb⟩
  go_wp2
  go_ret
  exact ⟨rfl, hb⟩

end Go.Proofs.YtgkamalgokebgaaDoor

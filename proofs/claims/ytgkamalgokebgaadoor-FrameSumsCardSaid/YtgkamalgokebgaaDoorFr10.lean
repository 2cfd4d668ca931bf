import Derived.Test.YtgkamalgokebgaaDoorFr9
namespace Go.Proofs.YtgkamalgokebgaaDoor
open Go.RowKit Go.Lib Go.Shelf
attribute [local go_sem ↓] Go.wp_at_zero Go.wp_at_succ
set_option maxRecDepth 100000 in
set_option maxHeartbeats 4000000 in
theorem frameSums_walk (a b : List UInt8) (w : World) (hE : Env w) (hB : BarE w) : Calls Tryd.prog 4 #[.string ⟨a.toArray⟩, .string ⟨b.toArray⟩] w fun e w' => e = .returned (.bool true) ∧ Below w.heap.size w w' := by
  have EN := Lib.hid hE
  have BE := Lib.hid hB
  have AL := Lib.hid alive_any
  clear hE hB
  by_cases big : a.length ≤ 3000 ∧ b.length ≤ 3000 ∧ a.length % 4 = 0 ∧ b.length % 4 = 0
  · obtain ⟨ha, hb, ha4, hb4⟩ := big
    have da : decide ((3000 : Int) < (a.length : Int)) = false := decide_eq_false (by omega)
    have db : decide ((3000 : Int) < (b.length : Int)) = false := decide_eq_false (by omega)
    have ma : ((((a.length : Nat) : Int).tmod 4) != 0) = false := by rw [Int.tmod_eq_emod_of_nonneg (by omega)]; simp; omega
    have ma' : ((((a.length : Nat) : Int) % 4) != 0) = false := by simp; omega
    have mb : ((((b.length : Nat) : Int).tmod 4) != 0) = false := by rw [Int.tmod_eq_emod_of_nonneg (by omega)]; simp; omega
    have mb' : ((((b.length : Nat) : Int) % 4) != 0) = false := by simp; omega
    have SA := Lib.hid (sum_any a (by omega) ha4)
    have SB := Lib.hid (sum_any b (by omega) hb4)
    have SC := Lib.hid (sum_any (a ++ b) (by rw [List.length_append]; omega) (by rw [List.length_append]; omega))
    have SD := Lib.hid (sum_any (b ++ a) (by rw [List.length_append]; omega) (by rw [List.length_append]; omega))
    have hcm : tot (w4 (b ++ a)) = tot (w4 (a ++ b)) := by rw [w4_append _ _ ha4, w4_append _ _ hb4, Nat.add_comm]
    rw [hcm] at SD
    clear hcm
    have hz := tot_add (w4 a) (w4 b)
    rw [← w4_append _ _ ha4] at hz
    have hx := tot_le (w4 a)
    have hy := tot_le (w4 b)
    have hzl := tot_le (w4 (a ++ b))
    generalize tot (w4 (a ++ b)) = Z at *
    generalize tot (w4 a) = X at *
    generalize tot (w4 b) = Y at *
    have AB := Lib.hid (app_bytes a b)
    have BA := Lib.hid (app_bytes b a)
    have HZ := Lib.hid hz
    clear hz ha4 hb4
    go_enter Tryd.func4, Tryd.ntmps4
    go_wp2_with fail
    refine (AL.out _ EN.out BE.out).mono ?_
    rintro e w1 ⟨rfl, hb⟩
    have B0 := Lib.hid hb
    clear hb
    go_wp2_with fail
    refine (SA.out _).mono ?_
    rintro e w2 ⟨rfl, hb⟩
    replace B0 := Lib.hid (below_mono B0.out hb)
    clear hb
    go_wp2_with fail
    refine (SB.out _).mono ?_
    rintro e w3 ⟨rfl, hb⟩
    replace B0 := Lib.hid (below_mono B0.out hb)
    clear hb
    go_wp2_with fail
    rw [AB.out]
    refine (SC.out _).mono ?_
    rintro e w4 ⟨rfl, hb⟩
    replace B0 := Lib.hid (below_mono B0.out hb)
    clear hb
    go_wp2_with fail
    rw [BA.out]
    refine (SD.out _).mono ?_
    rintro e w5 ⟨rfl, hb⟩
    replace B0 := Lib.hid (below_mono B0.out hb)
    clear hb
    clear SA SB SC SD AB BA ma ma' mb mb' da db AL EN BE
    have i1 : IntKind.u64.wrap ((X : Int) + (Y : Int)) = (X : Int) + (Y : Int) := by rw [IntKind.wrap_u64]; omega
    by_cases hs : 4294967296 ≤ X + Y
    · have ez := HZ.out
      rw [if_pos hs] at ez
      have d1 : decide ((4294967296 : Int) ≤ (X : Int) + (Y : Int)) = true := decide_eq_true (by omega)
      have i2 : IntKind.u64.wrap ((X : Int) + (Y : Int) - 4294967296) = (X : Int) + (Y : Int) - 4294967296 := by rw [IntKind.wrap_u64]; omega
      have i3 : IntKind.u64.wrap ((X : Int) + (Y : Int) - 4294967296 + 1) = (X : Int) + (Y : Int) - 4294967296 + 1 := by rw [IntKind.wrap_u64]; omega
      have ez2 : ((Z : Int) == (X : Int) + (Y : Int) - 4294967296 + 1) = true := by simp; omega
      clear ez hs
      go_wp2
      go_ret
      exact ⟨rfl, B0.out⟩
    · have ez := HZ.out
      rw [if_neg hs] at ez
      have d1 : decide ((4294967296 : Int) ≤ (X : Int) + (Y : Int)) = false := decide_eq_false (by omega)
      have ez2 : ((Z : Int) == (X : Int) + (Y : Int)) = true := by simp; omega
      clear ez hs
      go_wp2
      go_ret
      exact ⟨rfl, B0.out⟩
  · have h4 : 3000 < a.length ∨ (a.length ≤ 3000 ∧ 3000 < b.length) ∨ (a.length ≤ 3000 ∧ b.length ≤ 3000 ∧ a.length % 4 ≠ 0) ∨ (a.length ≤ 3000 ∧ b.length ≤ 3000 ∧ a.length % 4 = 0 ∧ b.length % 4 ≠ 0) := by omega
    clear big
    rcases h4 with h4 | h4 | h4 | h4
    · skip
      have da : decide ((3000 : Int) < (a.length : Int)) = true := decide_eq_true (by omega)
      clear h4
      go_enter Tryd.func4, Tryd.ntmps4
      go_wp2_with fail
      refine (AL.out _ EN.out BE.out).mono ?_
      rintro e w1 ⟨rfl, hb⟩
      have B0 := Lib.hid hb
      clear hb
      go_wp2
      go_ret
      exact ⟨rfl, B0.out⟩
    · skip
      have da : decide ((3000 : Int) < (a.length : Int)) = false := decide_eq_false (by omega)
      have db : decide ((3000 : Int) < (b.length : Int)) = true := decide_eq_true (by omega)
      clear h4
      go_enter Tryd.func4, Tryd.ntmps4
      go_wp2_with fail
      refine (AL.out _ EN.out BE.out).mono ?_
      rintro e w1 ⟨rfl, hb⟩
      have B0 := Lib.hid hb
      clear hb
      go_wp2
      go_ret
      exact ⟨rfl, B0.out⟩
    · skip
      have da : decide ((3000 : Int) < (a.length : Int)) = false := decide_eq_false (by omega)
      have db : decide ((3000 : Int) < (b.length : Int)) = false := decide_eq_false (by omega)
      have ma : ((((a.length : Nat) : Int).tmod 4) != 0) = true := by rw [Int.tmod_eq_emod_of_nonneg (by omega)]; simp; omega
      have ma' : ((((a.length : Nat) : Int) % 4) != 0) = true := by simp; omega
      clear h4
      go_enter Tryd.func4, Tryd.ntmps4
      go_wp2_with fail
      refine (AL.out _ EN.out BE.out).mono ?_
      rintro e w1 ⟨rfl, hb⟩
      have B0 := Lib.hid hb
      clear hb
      go_wp2
      go_ret
      exact ⟨rfl, B0.out⟩
    · skip
      have da : decide ((3000 : Int) < (a.length : Int)) = false := decide_eq_false (by omega)
      have db : decide ((3000 : Int) < (b.length : Int)) = false := decide_eq_false (by omega)
      have ma : ((((a.length : Nat) : Int).tmod 4) != 0) = false := by rw [Int.tmod_eq_emod_of_nonneg (by omega)]; simp; omega
      have ma' : ((((a.length : Nat) : Int) % 4) != 0) = false := by simp; omega
      have mb : ((((b.length : Nat) : Int).tmod 4) != 0) = true := by rw [Int.tmod_eq_emod_of_nonneg (by omega)]; simp; omega
      have mb' : ((((b.length : Nat) : Int) % 4) != 0) = true := by simp; omega
      clear h4
      go_enter Tryd.func4, Tryd.ntmps4
      go_wp2_with fail
      refine (AL.out _ EN.out BE.out).mono ?_
      rintro e w1 ⟨rfl, hb⟩
      have B0 := Lib.hid hb
      clear hb
      go_wp2
      go_ret
      exact ⟨rfl, B0.out⟩

end Go.Proofs.YtgkamalgokebgaaDoor

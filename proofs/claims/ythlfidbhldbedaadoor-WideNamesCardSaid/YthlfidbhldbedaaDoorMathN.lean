/- What the law WideNames needs: limits and errors. No program in sight. -/
import Derived.Test.YthlfidbhldbedaaDoorMathZ
import Derived.Test.YthlfidbhldbedaaDoorMathT
import Derived.Test.YthlfidbhldbedaaDoorOnes
namespace Go.Proofs.YthlfidbhldbedaaDoor
theorem ones_bad {n : Nat} (h : n = 4097) : chk false (onesL n) = 8 := by
  refine chk_bad ?_
  unfold badL
  rw [onesL_len, decide_eq_true (show 4096 < n by omega)]
  simp

theorem ones_good {n : Nat} (h : n = 4096) : badL false (onesL n) = false := by
  unfold badL
  rw [onesL_len, decide_eq_false (show ¬ 4096 < n by omega), decide_eq_false (show ¬ n = 0 by omega)]
  have : (onesL n)[n - 1]?.getD 0 = 4294967295 := by
    unfold onesL
    rw [List.getElem?_replicate, if_pos (by omega)]
    rfl
  rw [this]
  simp

theorem ones_vz {n : Nat} (h : n = 4096) : VZ false (onesL n) ((4294967296 ^ n - 1 : Nat) : Int) := by
  have hv := vz_of (lim_ones n) (ones_good h)
  have e := val_ones n
  have : zv false (onesL n) = ((4294967296 ^ n - 1 : Nat) : Int) := by
    unfold zv
    simp only [Bool.false_eq_true, if_false]
    omega
  rwa [this] at hv

theorem ones_over {n : Nat} (h : n = 4096) : addS false (onesL n) (wOf 1).1 (wOf 1).2 = ((false, []), 16) := by
  rw [addS_out (ones_vz h) (vz_wOf fit_one), outZ_not]
  intro hf
  unfold fitZ at hf
  have e := val_ones n
  have h1 : (((4294967296 ^ n - 1 : Nat) : Int) + 1).natAbs = 4294967296 ^ n := by omega
  rw [h1, ← h, limbs_len_le] at hf
  omega

theorem ones_under {n : Nat} (h : n = 4096) : ∃ p : Bool × List Nat, addS false (onesL n) (wOf (-1)).1 (wOf (-1)).2 = (p, 0) := by
  have hv := ones_vz h
  have hm : fitZ (-1) := fit_mono (b := 1) (by simp) fit_one
  have e := val_ones n
  have h2 : 1 < 4294967296 ^ n := Nat.one_lt_pow (by omega) (by omega)
  have hf : fitZ (((4294967296 ^ n - 1 : Nat) : Int) + -1) := fit_mono (b := ((4294967296 ^ n - 1 : Nat) : Int)) (by omega) hv.2
  exact ⟨_, addS_z hv (vz_wOf hm) hf⟩

theorem ones_shift {n k : Nat} (h : n = 4096) (hk : k = 131072) : shS false (onesL n) (-(k : Int)) = (wOf 0, 0) := by
  rw [shS_down_z (ones_vz h) (by omega)]
  have e := val_ones n
  have e2 : (4294967296 : Nat) ^ n = 2 ^ k := by
    rw [show (4294967296 : Nat) = 2 ^ 32 by rfl, ← Nat.pow_mul]
    congr 1
    omega
  have e3 : (2 : Int) ^ k = ((2 ^ k : Nat) : Int) := by push_cast; rfl
  rw [e2, e3, Int.fdiv_eq_zero_of_lt (by omega) (by have := Nat.two_pow_pos k; omega)]

theorem minus_shift {k : Nat} (hk : k = 131072) : shS (wOf (-1)).1 (wOf (-1)).2 (-(k : Int)) = (wOf (-1), 0) := by
  have hm : fitZ (-1) := fit_mono (b := 1) (by simp) fit_one
  rw [shS_down_z (vz_wOf hm) (by omega)]
  have e3 : (2 : Int) ^ k = ((2 ^ k : Nat) : Int) := by push_cast; rfl
  have h0 := Nat.two_pow_pos k
  rw [e3]
  generalize 2 ^ k = P at *
  have := (div_uniq (x := -1) (y := (P : Int)) (q := -1) (r := (P : Int) - 1) (by omega) (by omega) ⟨fun _ => ⟨by omega, by omega⟩, fun h => by omega⟩).1
  rw [← this]

end Go.Proofs.YthlfidbhldbedaaDoor

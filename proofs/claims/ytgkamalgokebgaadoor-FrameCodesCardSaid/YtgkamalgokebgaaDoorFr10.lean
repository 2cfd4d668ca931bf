import Derived.Test.YtgkamalgokebgaaDoorFr9
namespace Go.Proofs.YtgkamalgokebgaaDoor
open Go.RowKit Go.Lib Go.Shelf
attribute [local go_sem ↓] Go.wp_at_zero Go.wp_at_succ
def turnS (v : Nat) : List UInt8 := (List.range 16).map fun j => UInt8.ofNat (cch v j)

theorem turn_eq (v : Nat) : (codeS v).drop 1 ++ (codeS v).take 1 = turnS v := rfl

theorem turn_len (v : Nat) : (turnS v).length = 16 := by simp [turnS]

theorem code_len (v : Nat) : (codeS v).length = 16 := by simp [codeS]

theorem ext_mk (l : List UInt8) (a b : Nat) : (ByteArray.mk l.toArray).extract a b = ⟨((l.take b).drop a).toArray⟩ := by
  apply ByteArray.ext
  rw [ByteArray.data_extract]
  apply Array.toList_inj.1
  rw [Array.toList_extract]
  simp [List.extract_eq_take_drop, List.drop_take]

theorem turn_app (v : Nat) : (ByteArray.mk (codeS v).toArray).extract 1 16 ++ (ByteArray.mk (codeS v).toArray).extract 0 1 = ⟨(turnS v).toArray⟩ := by
  rw [ext_mk, ext_mk, app_bytes, List.drop_zero, List.take_of_length_le (by rw [code_len]; omega), turn_eq]

theorem cch_le (v j : Nat) (hj : j < 16) : cch v j ≤ 122 ∧ 48 ≤ cch v j := by
  have h := cch_good v j hj
  unfold goodC at h
  simp only [Bool.or_eq_true, Bool.and_eq_true, decide_eq_true_eq] at h
  omega

theorem turn_at (v j : Nat) (hj : j < 16) : ((turnS v)[j]'(by rw [turn_len]; exact hj)).toNat = cch v j := by
  have h := cch_le v j hj
  simp only [turnS, List.getElem_map, List.getElem_range]
  rw [UInt8.toNat_ofNat']
  omega

theorem csum_le (v : Nat) : ∀ j, j ≤ 16 → csum v j ≤ j * 1241513984
  | 0, _ => Nat.zero_le _
  | j + 1, h => by
    have ih := csum_le v j (by omega)
    have hc := cch_le v j (by omega)
    have he : 2 ^ (24 - 8 * (j % 4)) ≤ 16777216 := by
      have : j % 4 = 0 ∨ j % 4 = 1 ∨ j % 4 = 2 ∨ j % 4 = 3 := by omega
      rcases this with h | h | h | h <;> rw [h] <;> decide
    have hm : (cch v j - 48) * 2 ^ (24 - 8 * (j % 4)) ≤ 74 * 16777216 := Nat.mul_le_mul (by omega) he
    show csum v j + (cch v j - 48) * 2 ^ (24 - 8 * (j % 4)) ≤ _
    omega

theorem csum_step (v j c : Nat) (hc : cch v j = c) (hj : j < 16) : IntKind.u64.wrap ((csum v j : Int) + IntKind.u64.wrap (((c : Int) - 48) % 256 * 2 ^ (24 - 8 * (j % 4)))) = (csum v (j + 1) : Int) := by
  have hb := csum_le v (j + 1) (by omega)
  have hl := cch_le v j hj
  have e : csum v (j + 1) = csum v j + (c - 48) * 2 ^ (24 - 8 * (j % 4)) := by rw [← hc]; rfl
  have e2 : ((c : Int) - 48) % 256 * 2 ^ (24 - 8 * (j % 4)) = (((c - 48) * 2 ^ (24 - 8 * (j % 4)) : Nat) : Int) := by
    rw [hc] at hl
    have h0 : ((c : Int) - 48) % 256 = ((c - 48 : Nat) : Int) := by omega
    rw [h0]
    push_cast
    rfl
  rw [e2]
  generalize (c - 48) * 2 ^ (24 - 8 * (j % 4)) = m at *
  rw [IntKind.wrap_u64, IntKind.wrap_u64]
  omega

set_option maxRecDepth 100000 in
set_option maxHeartbeats 4000000 in
theorem frameCodes_walk (v : Nat) (hv : v < 4294967296) (w : World) (hE : Env w) (hB : BarE w) : Calls Tryd.prog 3 #[.int .u32 (v : Int)] w fun e w' => e = .returned (.bool true) ∧ Below w.heap.size w w' := by
  have EN := Lib.hid hE
  have BE := Lib.hid hB
  have CC := Lib.hid (fun W h => code_any v hv W h)
  have hcl := code_len v
  have htl := turn_len v
  have TA := Lib.hid (turn_app v)
  have AL := Lib.hid alive_any
  have CA := Lib.hid (csum_all v hv)
  have IX : Hid (∀ (j : Nat) (hj : j < 16) (W : World), (Instr.index 9 (.string ⟨(turnS v).toArray⟩) (.int .i64 (j : Int))).run Tryd.prog W = .ok (.int .u8 (cch v j : Int)) W) := fun j hj W => by
    have h := idx_str (turnS v) j (by rw [htl]; exact hj) j rfl W
    rw [turn_at v j hj] at h
    exact h
  clear hE hB
  generalize codeS v = S at *
  generalize turnS v = U at *
  go_enter Tryd.func3, Tryd.ntmps3
  go_wp2_with fail
  refine (AL.out _ EN.out BE.out).mono ?_
  rintro e w1 ⟨rfl, hb⟩
  have B0 := Lib.hid hb
  clear hb
  go_wp2_with fail
  refine (CC.out _ (BE.out.keep B0.out)).mono ?_
  rintro e w2 ⟨rfl, hb⟩
  replace B0 := Lib.hid (below_mono B0.out hb)
  clear hb
  go_wp2
  go_quiet (fail)
  go_wp2
  rw [TA.out]
  replace B0 := Lib.hid (below_drewN B0.out nq)
  generalize w2.drewN nq = w3 at *
  go_loopw [5, 6] (fun s5 s6 wz => ∃ j : Nat, j ≤ 16 ∧ s5 = .int .u64 (csum v j : Int) ∧ s6 = .int .i64 j ∧ Below w.heap.size w wz) (fun _ v _ => 16 - (RowKit.intOf v).toNat)
  case atStart => exact ⟨0, Nat.zero_le _, rfl, rfl, B0.out⟩
  case round =>
    clear B0
    obtain ⟨j, hj, rfl, rfl, hb⟩ := hrel
    have B0 := Lib.hid hb
    clear hb
    by_cases hlt : j < 16
    · have tj : decide ((j : Int) < 16) = true := decide_eq_true (by omega)
      have ix := IX.out j hlt
      have hg := cch_good v j hlt
      unfold goodC at hg
      simp only [Bool.or_eq_true, Bool.and_eq_true, decide_eq_true_eq] at hg
      have tn : decide ((0 : Int) ≤ (j : Int)) = true := decide_eq_true (by omega)
      generalize hc : cch v j = c at *
      have cs := Lib.hid (csum_step v j c hc hlt)
      clear hc
      have d1 : decide ((48 : Int) ≤ (c : Int)) = true := decide_eq_true (by omega)
      rcases hg with (hg | hg) | hg
      · skip
        have d2 : decide ((c : Int) ≤ 57) = true := decide_eq_true (by omega)
        clear hg
        go_wp2
        go_roundw
        case rel => exact ⟨j + 1, by omega, by rw [cs.out], by go_num, B0.out⟩
        case measure => simp [RowKit.intOf]; omega
      · skip
        have d2 : decide ((c : Int) ≤ 57) = false := decide_eq_false (by omega)
        have d3 : decide ((65 : Int) ≤ (c : Int)) = true := decide_eq_true (by omega)
        have d4 : decide ((c : Int) ≤ 90) = true := decide_eq_true (by omega)
        clear hg
        go_wp2
        go_roundw
        case rel => exact ⟨j + 1, by omega, by rw [cs.out], by go_num, B0.out⟩
        case measure => simp [RowKit.intOf]; omega
      · skip
        have d2 : decide ((c : Int) ≤ 57) = false := decide_eq_false (by omega)
        have d3 : decide ((65 : Int) ≤ (c : Int)) = true := decide_eq_true (by omega)
        have d4 : decide ((c : Int) ≤ 90) = false := decide_eq_false (by omega)
        have d5 : decide ((97 : Int) ≤ (c : Int)) = true := decide_eq_true (by omega)
        have d6 : decide ((c : Int) ≤ 122) = true := decide_eq_true (by omega)
        clear hg
        go_wp2
        go_roundw
        case rel => exact ⟨j + 1, by omega, by rw [cs.out], by go_num, B0.out⟩
        case measure => simp [RowKit.intOf]; omega
    · have tj : decide ((j : Int) < 16) = false := decide_eq_false (by omega)
      have ej : csum v j = v := by
        have e : j = 16 := by omega
        rw [e]
        exact CA.out
      rw [ej]
      clear ej
      go_wp2
      go_ret
      exact ⟨by simp, B0.out⟩

end Go.Proofs.YtgkamalgokebgaaDoor

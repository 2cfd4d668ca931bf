import Derived.Test.YtgkamalgokebgaaDoorFrM
namespace Go.Proofs.YtgkamalgokebgaaDoor
open Go.Lib
/-- The cards of the empty frame's header, with a code. -/
def cdSimple : CD := ⟨[83, 73, 77, 80, 76, 69], 2, true, 0, 0, [], []⟩

def cdBitpix : CD := ⟨[66, 73, 84, 80, 73, 88], 3, false, 8, 0, [], []⟩

def cdNaxis : CD := ⟨[78, 65, 88, 73, 83], 3, false, 0, 0, [], []⟩

def cdSum : CD := ⟨[68, 65, 84, 65, 83, 85, 77], 5, false, 0, 0, [48], []⟩

def cdCode (s : List UInt8) : CD := ⟨[67, 72, 69, 67, 75, 83, 85, 77], 5, false, 0, 0, s, []⟩

def cds4 : List CD := [cdSimple, cdBitpix, cdNaxis, cdSum]

def cds5 (s : List UInt8) : List CD := cds4 ++ [cdCode s]

/-- The unit with a code. -/
def unitS (s : List UInt8) : List UInt8 := (cds5 s).flatMap lineS ++ (69 :: 78 :: 68 :: List.replicate 77 32) ++ List.replicate 2400 32

def code0 : List UInt8 := List.replicate 16 48

def code1 : List UInt8 := codeS 4250459722

theorem unit_len (s : List UInt8) (h : s = code0 ∨ s = code1) : (unitS s).length = 2880 := by
  rcases h with rfl | rfl <;> decide +kernel

theorem unit_tot0 : tot (w4 (unitS code0)) = 44507573 := by decide +kernel

theorem unit_tot1 : tot (w4 (unitS code1)) = 4294967295 := by decide +kernel

theorem cds_ok0 : (cds5 code0).all (fun x => chkC x && (x.kd != 1) && (x.kd != 4) && decide ((behindS x).length ≤ 70)) = true := by decide +kernel

theorem cds_ok1 : (cds5 code1).all (fun x => chkC x && (x.kd != 1) && (x.kd != 4) && decide ((behindS x).length ≤ 70)) = true := by decide +kernel

theorem cds_good {s : List UInt8} (h : s = code0 ∨ s = code1) : ∀ x ∈ cds5 s, chkC x = true ∧ x.kd ≠ 1 ∧ x.kd ≠ 4 ∧ (behindS x).length ≤ 70 := by
  intro x hx
  have h2 : (cds5 s).all (fun x => chkC x && (x.kd != 1) && (x.kd != 4) && decide ((behindS x).length ≤ 70)) = true := by
    rcases h with rfl | rfl
    · exact cds_ok0
    · exact cds_ok1
  have h3 := List.all_eq_true.1 h2 x hx
  simp only [Bool.and_eq_true, bne_iff_ne, decide_eq_true_eq] at h3
  exact ⟨h3.1.1.1, h3.1.1.2, h3.1.2, h3.2⟩

theorem cds_len {s : List UInt8} (h : s = code0 ∨ s = code1) : ((cds5 s).flatMap lineS).length = 400 := by
  rcases h with rfl | rfl <;> decide +kernel

/-- "SIMPLE  =                    T" -/
theorem unit_head : (unitS code1).take 30 = [83, 73, 77, 80, 76, 69, 32, 32, 61] ++ (List.replicate 20 32 ++ [84]) := by decide +kernel

/-- "DATASUM = '0       '" -/
theorem unit_mid : ((unitS code1).drop 240).take 20 = [68, 65, 84, 65, 83, 85, 77, 32, 61, 32, 39, 48, 32, 32, 32, 32, 32, 32, 32, 39] := by decide +kernel

/-- "hcHjjc9ghcEghc9g" -/
theorem code_ex : codeS 3426738146 = [104, 99, 72, 106, 106, 99, 57, 103, 104, 99, 69, 103, 104, 99, 57, 103] := by decide +kernel

/-- "\xff\xff\xff\xff\x00\x00\x00\x02" -/
theorem sum_ex : tot (w4 [255, 255, 255, 255, 0, 0, 0, 2]) = 2 := by decide +kernel

end Go.Proofs.YtgkamalgokebgaaDoor

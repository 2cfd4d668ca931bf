import Derived.Test.YtgkamalgokebgaaDoorFrM
namespace Go.Proofs.YtgkamalgokebgaaDoor
open Go.Lib
/-- The cards of the empty frame's header, with a code. -/
def cdSimple : CD := ⟨[83, 73, 77, 80, 76, 69], 2, true, 0, 0, [], []⟩

def cdBitpix : CD := ⟨[66, 73, 84, 80, 73, 88], 3, false, 8, 0, [], []⟩

def cdNaxis : CD := ⟨[78, 65, 88, 73, 83], 3, false, 0, 0, [], []⟩

def cdSum : CD := ⟨[68, 65, 84, 65, 83, 85, 77], 5, false, 0, 0, [48], []⟩

def cdCode (s : List UInt8) : CD := ⟨[67, 72, 69, 67, 75, 83, 85, 77], 5, false, 0, 0, s, []⟩

def cds4 : List CD := [cdSimple, cdBitpix, cdNaxis, cdSum]

def cds5 (s : List UInt8) : List CD := cds4 ++ [cdCode s]

/-- The unit with a code. -/
def unitS (s : List UInt8) : List UInt8 := (cds5 s).flatMap lineS ++ (69 :: 78 :: 68 :: List.replicate 77 32) ++ List.replicate 2400 32

def code0 : List UInt8 := List.replicate 16 48

def code1 : List UInt8 := codeS 4250459722

theorem unit_len (s : List UInt8) (h : s = code0 ∨ s = code1) : (unitS s).length = 2880 := by
  rcases h with rfl | rfl <;> decide +kernel

theorem unit_tot0 : tot (w4 (unitS code0)) = 44507573 := by decide +kernel

theorem unit_tot1 : tot (w4 (unitS code1)) = 4294967295 := by decide +kernel

theorem cds_ok0 : (cds5 code0).all (fun x => chkC x && (x.kd != 1) && (x.kd != 4) && decide ((behindS x).length ≤ 70)) = true := by decide +kernel

theorem cds_ok1 : (cds5 code1).all (fun x => chkC x && (x.kd != 1) && (x.kd != 4) && decide ((behindS x).length ≤ 70)) = true := by decide +kernel

theorem cds_good {s : List UInt8} (h : s = code0 ∨ s = code1) : ∀ x ∈ cds5 s, chkC x = true ∧ x.kd ≠ 1 ∧ x.kd ≠ 4 ∧ (behindS x).length ≤ 70 := by
  intro x hx
  have h2 : (cds5 s).all (fun x => chkC x && (x.kd != 1) && (x.kd != 4) && decide ((behindS x).length ≤ 70)) = true := by
    rcases h with rfl | rfl
    · exact cds_ok0
    · exact cds_ok1
  have h3 := List.all_eq_true.1 h2 x hx
  simp only [Bool.and_eq_true, bne_iff_ne, decide_eq_true_eq] at h3
  exact ⟨h3.1.1.1, h3.1.1.2, h3.1.2, h3.2⟩

theorem cds_len {s : List UInt8} (h : s = code0 ∨ s = code1) : ((cds5 s).flatMap lineS).length = 400 := by
  rcases h with rfl | rfl <;> decide +kernel

/-- "SIMPLE  =                    T" -/
theorem unit_head : (unitS code1).take 30 = [83, 73, 77, 80, 76, 69, 32, 32, 61] ++ (List.replicate 20 32 ++ [84]) := by decide +kernel

/-- "DATASUM = '0       '" -/
theorem unit_mid : ((unitS code1).drop 240).take 20 = [68, 65, 84, 65, 83, 85, 77, 32, 61, 32, 39, 48, 32, 32, 32, 32, 32, 32, 32, 39] := by decide +kernel

/-- "hcHjjc9ghcEghc9g" -/
theorem code_ex : codeS 3426738146 = [104, 99, 72, 106, 106, 99, 57, 103, 104, 99, 69, 103, 104, 99, 57, 103] := by decide +kernel

/-- "\xff\xff\xff\xff\x00\x00\x00\x02" -/
theorem sum_ex : tot (w4 [255, 255, 255, 255, 0, 0, 0, 2]) = 2 := by decide +kernel

theorem pair_ok {b k : Nat} (hb : b < 256) (hk : k < 2) : cx b k + cy b k = 2 * (b / 4 + 48) + (if k = 0 then b % 4 else 0) ∧ goodC (cx b k) = true ∧ goodC (cy b k) = true ∧ 48 ≤ cx b k ∧ cx b k ≤ 122 ∧ 48 ≤ cy b k ∧ cy b k ≤ 122 := by
  have h := code_ok hb hk
  unfold codeOk at h
  simp only [Bool.and_eq_true, decide_eq_true_eq, Bool.not_eq_true', beq_iff_eq] at h
  have h1 := h.1.1.2
  have h2 := h.1.2
  unfold goodC at h1 h2
  simp only [Bool.or_eq_true, Bool.and_eq_true, decide_eq_true_eq] at h1 h2
  exact ⟨h.2, h.1.1.2, h.1.2, by omega, by omega, by omega, by omega⟩

/-- What the law adds up of a code that is turned back. -/
def csum (v : Nat) : Nat → Nat
  | 0 => 0
  | n + 1 => csum v n + (cch v n - 48) * 2 ^ (24 - 8 * (n % 4))

theorem byte_sum {b : Nat} (hb : b < 256) : (cx b 0 - 48) + (cy b 0 - 48) + (cx b 1 - 48) + (cy b 1 - 48) = b := by
  obtain ⟨a1, -, -, b1, -, c1, -⟩ := pair_ok hb (k := 0) (by omega)
  obtain ⟨a2, -, -, b2, -, c2, -⟩ := pair_ok hb (k := 1) (by omega)
  rw [if_pos rfl] at a1
  rw [if_neg (by omega)] at a2
  omega

theorem word_sum (v a0 a1 a2 a3 b0 b1 b2 b3 c0 c1 c2 c3 d0 d1 d2 d3 x0 x1 x2 x3 : Nat) (h0 : a0 + b0 + c0 + d0 = x0) (h1 : a1 + b1 + c1 + d1 = x1) (h2 : a2 + b2 + c2 + d2 = x2) (h3 : a3 + b3 + c3 + d3 = x3)
    (hv : v = x0 * 16777216 + x1 * 65536 + x2 * 256 + x3) :
    0 + a0 * 16777216 + a1 * 65536 + a2 * 256 + a3 * 1 + b0 * 16777216 + b1 * 65536 + b2 * 256 + b3 * 1 + c0 * 16777216 + c1 * 65536 + c2 * 256 + c3 * 1 + d0 * 16777216 + d1 * 65536 + d2 * 256 + d3 * 1 = v := by
  subst h0 h1 h2 h3 hv
  simp only [Nat.add_mul]
  ac_rfl

theorem csum_all (v : Nat) (hv : v < 4294967296) : csum v 16 = v := by
  have hb : ∀ i, byt v i < 256 := fun i => Nat.mod_lt _ (by omega)
  have e : v = byt v 0 * 16777216 + byt v 1 * 65536 + byt v 2 * 256 + byt v 3 := by
    show v = v / 16777216 % 256 * 16777216 + v / 65536 % 256 * 65536 + v / 256 % 256 * 256 + v / 1 % 256
    omega
  exact word_sum v _ _ _ _ _ _ _ _ _ _ _ _ _ _ _ _ _ _ _ _ (byte_sum (hb 0)) (byte_sum (hb 1)) (byte_sum (hb 2)) (byte_sum (hb 3)) e

theorem cch_good (v j : Nat) (hj : j < 16) : goodC (cch v j) = true := by
  have hb : ∀ i, byt v i < 256 := fun i => Nat.mod_lt _ (by omega)
  have h := pair_ok (hb (j % 4)) (k := j / 8) (by omega)
  unfold cch
  split
  · exact h.2.1
  · exact h.2.2.1

end Go.Proofs.YtgkamalgokebgaaDoor

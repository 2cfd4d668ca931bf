/- Walks: Bits. -/
import Derived.Test.YthlfidbhldbedaaW2
import Derived.Test.YthlfidbhldbedaaShelf
namespace Go.Proofs.Ythlfidbhldbedaa
open Go.RowKit
theorem bitLenN_pos {n : Nat} (h : 0 < n) : bitLenN n = bitLenN (n / 2) + 1 := by
  unfold bitLenN
  rw [if_neg (by omega)]
  by_cases h1 : n / 2 = 0
  · have : n = 1 := by omega
    subst this; rfl
  · rw [if_neg h1]
    rw [Nat.log2_def n, if_pos (by omega)]

theorem bitLen_aux : ∀ (f x : Nat), x < 2 ^ f → Lib.bitLenAux f x = bitLenN x
  | 0, x, h => by
    obtain rfl : x = 0 := by omega
    rfl
  | f + 1, x, h => by
    rw [Lib.bitLenAux]
    by_cases h0 : x = 0
    · subst h0; rfl
    · have e := bitLenN_pos (n := x) (by omega)
      rw [if_neg h0, bitLen_aux f (x / 2) (by rw [Nat.pow_succ] at h; omega), e]; omega

theorem bitLen_eq {x : Nat} (h : x < 4294967296) : Lib.bitLen x = bitLenN x := bitLen_aux 64 x (by omega)

theorem bitLenN_le {x k : Nat} (h : x < 2 ^ k) : bitLenN x ≤ k := by
  unfold bitLenN
  split
  · omega
  · next h0 => have := (Nat.log2_lt h0).2 h; omega

end Go.Proofs.Ythlfidbhldbedaa

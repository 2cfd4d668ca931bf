/- Walks: Add32, Sub32, Div32 of math/bits. -/
import Derived.Test.YthlfidbhldbedaaW1
import Derived.Test.YthlfidbhldbedaaMem
namespace Go.Proofs.Ythlfidbhldbedaa
open Go.RowKit
/-- Fits 64 bits (the numeral behind a name). -/
def U64 (n : Nat) : Prop := n < 18446744073709551616

theorem ret_ii {k k' : IntKind} {a b a' b' : Int} (h : a = a') (h' : b = b') : Ending.returned (.tuple #[.int k a, .int k' b]) = .returned (.tuple #[.int k a', .int k' b']) := by rw [h, h']

set_option maxHeartbeats 400000 in
theorem add32_any (x y c : Nat) (hx : x < 4294967296) (hy : y < 4294967296) (hc : c ≤ 1) (w : World) :
    Calls Try.prog 91 #[.int .u32 x, .int .u32 y, .int .u32 c] w fun e w' => e = .returned (.tuple #[.int .u32 ((x + y + c) % 4294967296 : Nat), .int .u32 ((x + y + c) / 4294967296 : Nat)]) ∧ w = w' := by
  go_enter Try.func91, Try.ntmps91
  go_wp2
  go_ret2
  exact ⟨by simp, rfl⟩

/-- What a subtraction borrows. -/
def subB (x y c : Nat) : Nat := if x < y + c then 1 else 0

theorem tb31 {v : Nat} (h : v < 4294967296) : v / 2147483648 = (v.testBit 31).toNat := by
  rw [Nat.testBit_eq_decide_div_mod_eq]
  by_cases h1 : v / 2 ^ 31 % 2 = 1
  · rw [decide_eq_true h1]; simp only [Bool.toNat_true]; omega
  · rw [decide_eq_false h1]; simp only [Bool.toNat_false]; omega

theorem borrow32 (x y c : Nat) (hx : x < 4294967296) (hy : y < 4294967296) (hc : c ≤ 1) :
    (((4294967295 ^^^ x) &&& y) ||| ((4294967295 ^^^ (x ^^^ y)) &&& ((x + 8589934592 - y - c) % 4294967296))) / 2147483648 = subB x y c := by
  have hd : (x + 8589934592 - y - c) % 4294967296 < 4294967296 := Nat.mod_lt _ (by omega)
  have hN : (((4294967295 ^^^ x) &&& y) ||| ((4294967295 ^^^ (x ^^^ y)) &&& ((x + 8589934592 - y - c) % 4294967296))) < 4294967296 :=
    Nat.or_lt_two_pow (n := 32) (Nat.and_lt_two_pow _ hy) (Nat.and_lt_two_pow _ hd)
  rw [tb31 hN]
  have hm : Nat.testBit 4294967295 31 = true := by decide
  have h1 := tb31 hx
  have h2 := tb31 hy
  have h3 := tb31 hd
  simp only [Nat.testBit_or, Nat.testBit_and, Nat.testBit_xor, hm]
  generalize x.testBit 31 = bx at *
  generalize y.testBit 31 = by_ at *
  generalize ((x + 8589934592 - y - c) % 4294967296).testBit 31 = bd at *
  unfold subB
  cases bx <;> cases by_ <;> cases bd <;> simp at h1 h2 h3 ⊢ <;> omega

theorem sub32_int (x y c : Nat) (hx : x < 4294967296) (hy : y < 4294967296) (hc : c ≤ 1) :
    bits BinOp.or IntKind.u32 (bits BinOp.and IntKind.u32 (bits BinOp.xor IntKind.u32 IntKind.u32.max ↑x) ↑y) (bits BinOp.and IntKind.u32 (bits BinOp.xor IntKind.u32 IntKind.u32.max (bits BinOp.xor IntKind.u32 ↑x ↑y)) (((x : Int) - ↑y - ↑c) % 4294967296)) / 2147483648 = ((subB x y c : Nat) : Int) := by
  have hM : IntKind.u32.max = ((4294967295 : Nat) : Int) := rfl
  have hD : ((x : Int) - y - c) % 4294967296 = (((x + 8589934592 - y - c) % 4294967296 : Nat) : Int) := by omega
  have l1 : 4294967295 ^^^ x < 2 ^ 32 := Nat.xor_lt_two_pow (by omega) (by omega)
  have l2 : x ^^^ y < 2 ^ 32 := Nat.xor_lt_two_pow (by omega) (by omega)
  have l3 : 4294967295 ^^^ (x ^^^ y) < 2 ^ 32 := Nat.xor_lt_two_pow (by omega) l2
  have l4 : (x + 8589934592 - y - c) % 4294967296 < 4294967296 := Nat.mod_lt _ (by omega)
  have l5 : (4294967295 ^^^ x) &&& y < 2 ^ 32 := Nat.and_lt_two_pow _ (by omega)
  have l6 : (4294967295 ^^^ (x ^^^ y)) &&& ((x + 8589934592 - y - c) % 4294967296) < 2 ^ 32 := Nat.and_lt_two_pow _ (by omega)
  rw [hM, hD, u32_xor_nat 4294967295 x (by omega) (by omega), u32_xor_nat x y (by omega) (by omega), u32_xor_nat 4294967295 (x ^^^ y) (by omega) (by omega), u32_and_nat _ _ (by omega) (by omega), u32_and_nat _ _ (by omega) (by omega), u32_or_nat _ _ (by omega) (by omega), ← borrow32 x y c hx hy hc]
  omega

set_option maxHeartbeats 400000 in
theorem sub32_any (x y c : Nat) (hx : x < 4294967296) (hy : y < 4294967296) (hc : c ≤ 1) (w : World) :
    Calls Try.prog 92 #[.int .u32 x, .int .u32 y, .int .u32 c] w fun e w' => e = .returned (.tuple #[.int .u32 ((x + 8589934592 - y - c) % 4294967296 : Nat), .int .u32 (subB x y c : Nat)]) ∧ w = w' := by
  have hs : IntKind.u32.signed = false := rfl
  have Hb := Lib.hid (sub32_int x y c hx hy hc)
  go_enter Try.func92, Try.ntmps92
  go_wp2
  go_ret2
  exact ⟨ret_ii (by omega) Hb.out, rfl⟩

theorem or_lo32 (hi lo : Nat) (h : hi < 4294967296) (hlo : lo < 4294967296) : bits .or .u64 ((hi : Int) * 4294967296) (lo : Int) = ((hi * 4294967296 + lo : Nat) : Int) := by
  rw [u64_or _ _ (by omega) (by omega) (by omega) (by omega)]
  congr 1
  rw [Int.toNat_natCast, show ((hi : Int) * 4294967296).toNat = 2 ^ 32 * hi by omega, ← Nat.two_pow_add_eq_or_of_lt (by omega)]
  omega

set_option maxRecDepth 100000 in
set_option maxHeartbeats 400000 in
theorem div32_any (hi lo d : Nat) (hlo : lo < 4294967296) (hd : hi < d) (hd2 : d < 4294967296) (w : World) :
    Calls Try.prog 96 #[.int .u32 hi, .int .u32 lo, .int .u32 d] w fun e w' => e = .returned (.tuple #[.int .u32 ((hi * 4294967296 + lo) / d : Nat), .int .u32 ((hi * 4294967296 + lo) % d : Nat)]) ∧ ∃ n, w' = w.drewN n := by
  have h0 : ((d : Int) != 0) = true := by rw [bne_iff_ne]; omega
  have hN1 : (hi * 4294967296 + lo) / d < 4294967296 := by
    rw [Nat.div_lt_iff_lt_mul (by omega)]
    have : (hi + 1) * 4294967296 ≤ d * 4294967296 := Nat.mul_le_mul_right _ hd
    rw [Nat.mul_comm 4294967296 d]
    omega
  have hN2 : (hi * 4294967296 + lo) % d < d := Nat.mod_lt _ (by omega)
  have hN3 : hi * 4294967296 + lo < 18446744073709551616 := by omega
  have Hor := Lib.hid (or_lo32 hi lo (by omega) hlo)
  generalize hi * 4294967296 + lo = N at *
  have hM : N % d < 4294967296 := by omega
  have hN4 : (0 : Int) ≤ (N : Int) / (d : Int) := Int.ediv_nonneg (by omega) (by omega)
  have Hq : Hid (((N / d : Nat) : Int) = (N : Int) / (d : Int)) := by unfold Hid; omega
  have Hr : Hid (((N % d : Nat) : Int) = (N : Int) % (d : Int)) := by unfold Hid; omega
  rw [Hq.out, Hr.out]
  have HN3 : U64 N := hN3
  have HN4 := Lib.hid hN4
  have HN1 := Lib.hid hN1
  have HM := Lib.hid hM
  clear hN1 hN3 hN4 hM hN2
  go_enter Try.func96, Try.ntmps96
  go_wp2
  rw [Hor.out]
  have hN3 : N < 18446744073709551616 := HN3
  have hN4 := HN4.out
  have hN1 := HN1.out
  have hM := HM.out
  go_quiet (fail)
  clear hN3
  go_wp2
  go_ret2
  exact ⟨rfl, _, rfl⟩

end Go.Proofs.Ythlfidbhldbedaa

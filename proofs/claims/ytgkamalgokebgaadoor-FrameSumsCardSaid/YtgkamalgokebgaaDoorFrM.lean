import Derived.Test.YtgkamalgokebgaaDoorCdM
namespace Go.Proofs.YtgkamalgokebgaaDoor
open Go.Lib
/-- The sum of the words of four bytes. -/
def w4 : List UInt8 → Nat
  | a :: b :: c :: d :: l => a.toNat * 16777216 + b.toNat * 65536 + c.toNat * 256 + d.toNat + w4 l
  | _ => 0

/-- A sum folded into 32 bits. -/
def tot (n : Nat) : Nat := if n = 0 then 0 else (n - 1) % 4294967295 + 1

theorem tot_lt {n : Nat} (h : n < 4294967296) : tot n = n := by
  unfold tot
  split
  · omega
  · rw [Nat.mod_eq_of_lt (by omega)]; omega

theorem tot_fold (n : Nat) (h : 4294967296 ≤ n) : tot (n / 4294967296 + n % 4294967296) = tot n := by
  unfold tot
  rw [if_neg (by omega), if_neg (by omega)]
  have e : n - 1 = (n / 4294967296 + n % 4294967296 - 1) + n / 4294967296 * 4294967295 := by omega
  rw [e, Nat.add_mul_mod_self_right]

theorem tot_le (n : Nat) : tot n < 4294967296 := by
  unfold tot
  split
  · omega
  · have := Nat.mod_lt (n - 1) (y := 4294967295) (by omega)
    omega

theorem tot_eq {a b : Nat} (h0 : a = 0 ↔ b = 0) (h : a % 4294967295 = b % 4294967295) : tot a = tot b := by
  unfold tot
  by_cases ha : a = 0
  · rw [if_pos ha, if_pos (h0.1 ha)]
  · have hb : b ≠ 0 := fun e => ha (h0.2 e)
    rw [if_neg ha, if_neg hb]
    omega

theorem tot_add (a b : Nat) : tot (a + b) = if 4294967296 ≤ tot a + tot b then tot a + tot b - 4294967295 else tot a + tot b := by
  have ha := tot_le a
  have hb := tot_le b
  have h1 : tot (a + b) = tot (tot a + tot b) := by
    refine tot_eq ?_ ?_
    · unfold tot
      by_cases h0 : a = 0 <;> by_cases h1 : b = 0 <;> simp [h0, h1]
    · unfold tot
      by_cases h0 : a = 0 <;> by_cases h1 : b = 0 <;> simp [h0, h1] <;> omega
  rw [h1]
  clear h1
  generalize tot a = x at *
  generalize tot b = y at *
  split
  · rename_i h
    unfold tot
    rw [if_neg (by omega)]
    omega
  · exact tot_lt (by omega)

theorem w4_append : ∀ (a b : List UInt8), a.length % 4 = 0 → w4 (a ++ b) = w4 a + w4 b
  | [], b, _ => by simp [w4]
  | [_], b, h => by simp at h
  | [_, _], b, h => by simp at h
  | [_, _, _], b, h => by simp at h
  | x :: y :: z :: u :: l, b, h => by
    have ih := w4_append l b (by simp at h; omega)
    simp only [List.cons_append, w4, ih]
    omega

theorem w4_le : ∀ (l : List UInt8), w4 l ≤ l.length * 1073741824
  | [] => by simp [w4]
  | [_] => by simp [w4]
  | [_, _] => by simp [w4]
  | [_, _, _] => by simp [w4]
  | x :: y :: z :: u :: l => by
    have ih := w4_le l
    have h1 := x.toNat_lt
    have h2 := y.toNat_lt
    have h3 := z.toNat_lt
    have h4 := u.toNat_lt
    simp only [w4, List.length_cons]
    omega

theorem w4_step (l : List UInt8) (k : Nat) (h : k * 4 + 3 < l.length) :
    w4 (l.take ((k + 1) * 4)) = w4 (l.take (k * 4)) + (l[k * 4]'(by omega)).toNat * 16777216 + (l[k * 4 + 1]'(by omega)).toNat * 65536 + (l[k * 4 + 2]'(by omega)).toNat * 256 + (l[k * 4 + 3]'(by omega)).toNat := by
  have e : l.take ((k + 1) * 4) = l.take (k * 4) ++ [l[k * 4]'(by omega), l[k * 4 + 1]'(by omega), l[k * 4 + 2]'(by omega), l[k * 4 + 3]'(by omega)] := by
    rw [show (k + 1) * 4 = k * 4 + 1 + 1 + 1 + 1 by omega]
    rw [← List.take_append_getElem (show k * 4 + 1 + 1 + 1 < l.length by omega), ← List.take_append_getElem (show k * 4 + 1 + 1 < l.length by omega), ← List.take_append_getElem (show k * 4 + 1 < l.length by omega), ← List.take_append_getElem (show k * 4 < l.length by omega)]
    simp only [List.append_assoc, List.cons_append, List.nil_append]
  rw [e, w4_append _ _ (by rw [List.length_take]; omega)]
  simp [w4]
  omega

theorem w4_end (l : List UInt8) (k : Nat) (h : l.length < k * 4 + 4) : w4 (l.take (k * 4)) = w4 l := by
  have e : l = l.take (k * 4) ++ l.drop (k * 4) := (List.take_append_drop _ _).symm
  by_cases hk : k * 4 ≤ l.length
  · conv => rhs; rw [e]
    rw [w4_append _ _ (by rw [List.length_take]; omega)]
    have hd : (l.drop (k * 4)).length < 4 := by rw [List.length_drop]; omega
    have : w4 (l.drop (k * 4)) = 0 := by
      match hm : l.drop (k * 4), hd with
      | [], _ => rfl
      | [_], _ => rfl
      | [_, _], _ => rfl
      | [_, _, _], _ => rfl
    omega
  · rw [List.take_of_length_le (by omega)]

/-- Numbers that a code must not have. -/
def barB (c : Nat) : Bool := (decide (58 ≤ c) && decide (c ≤ 64)) || (decide (91 ≤ c) && decide (c ≤ 96))

def bar2 (x y : Nat) : Bool := barB x || barB y

def stp : Nat → Nat → Nat → Nat
  | 0, _, _ => 0
  | f + 1, x, y => if bar2 x y then stp f (x + 1) (y - 1) + 1 else 0

def qx (b k : Nat) : Nat := b / 4 + 48 + (if k = 0 then b % 4 else 0)

def nst (b k : Nat) : Nat := stp 20 (qx b k) (b / 4 + 48)

/-- The two characters of a byte, of its first pair (k = 0) or its second one. -/
def cx (b k : Nat) : Nat := qx b k + nst b k

def cy (b k : Nat) : Nat := b / 4 + 48 - nst b k

def goodC (c : Nat) : Bool := (decide (48 ≤ c) && decide (c ≤ 57)) || (decide (65 ≤ c) && decide (c ≤ 90)) || (decide (97 ≤ c) && decide (c ≤ 122))

def codeOk (b k : Nat) : Bool := decide (nst b k ≤ 10) && !bar2 (cx b k) (cy b k) && ((List.range (nst b k)).all fun j => bar2 (qx b k + j) (b / 4 + 48 - j)) && goodC (cx b k) && goodC (cy b k) && (cx b k + cy b k == 2 * (b / 4 + 48) + (if k = 0 then b % 4 else 0))

theorem code_all : ((List.range 256).all fun b => codeOk b 0 && codeOk b 1) = true := by decide +kernel

theorem code_ok {b k : Nat} (hb : b < 256) (hk : k < 2) : codeOk b k = true := by
  have h := List.all_eq_true.1 code_all b (List.mem_range.2 hb)
  rw [Bool.and_eq_true] at h
  obtain rfl | rfl : k = 0 ∨ k = 1 := by omega
  · exact h.1
  · exact h.2

/-- The byte of a number of 32 bits. -/
def byt (v i : Nat) : Nat := v / 2 ^ (24 - 8 * i) % 256

/-- The character of a code at the place j ahead of the turn by one. -/
def cch (v j : Nat) : Nat := if j / 4 % 2 = 0 then cx (byt v (j % 4)) (j / 8) else cy (byt v (j % 4)) (j / 8)

/-- A code. -/
def codeS (v : Nat) : List UInt8 := (List.range 16).map fun p => UInt8.ofNat (cch v ((p + 15) % 16))

end Go.Proofs.YtgkamalgokebgaaDoor

/- Decimal digits as bytes. No program in sight. -/
import Derived.Test.YthlfidbhldbedaaDoorMath
import Derived.Lib.TrimByte
namespace Go.Proofs.YthlfidbhldbedaaDoor
/-- The digit of a number below ten. -/
def dg (k : Nat) : UInt8 := UInt8.ofNat (48 + k % 10)

theorem dg_toNat (k : Nat) : (dg k).toNat = 48 + k % 10 := by
  unfold dg
  rw [UInt8.toNat_ofNat']
  omega

/-- The value of digits, the lowest first. -/
def dl : List UInt8 → Nat
  | [] => 0
  | c :: t => (c.toNat - 48) + 10 * dl t

def Dig (l : List UInt8) : Prop := ∀ c ∈ l, 48 ≤ c.toNat ∧ c.toNat ≤ 57

def digB (l : List UInt8) : Bool := l.all fun c => decide (48 ≤ c.toNat) && decide (c.toNat ≤ 57)

theorem digB_iff {l : List UInt8} : digB l = true ↔ Dig l := by
  unfold digB Dig
  simp

/-- The digits of a number, the lowest first. -/
def decF : Nat → Nat → List UInt8
  | 0, _ => []
  | f + 1, n => if n = 0 then [] else dg n :: decF f (n / 10)

def decR (n : Nat) : List UInt8 := decF n n

/-- .. the highest first. -/
def decS (n : Nat) : List UInt8 := (decR n).reverse

theorem decF_fuel : ∀ (f n : Nat), n ≤ f → decF f n = decF (f + 1) n
  | 0, n, h => by
    obtain rfl : n = 0 := by omega
    simp [decF]
  | f + 1, n, h => by
    unfold decF
    by_cases h0 : n = 0
    · rw [if_pos h0, if_pos h0]
    · rw [if_neg h0, if_neg h0, decF_fuel f (n / 10) (by omega)]

theorem decF_ge (n : Nat) : ∀ k, decF (n + k) n = decR n
  | 0 => rfl
  | k + 1 => by rw [← Nat.add_assoc, ← decF_fuel (n + k) n (by omega), decF_ge n k]

theorem decF_eq {f n : Nat} (h : n ≤ f) : decF f n = decR n := by
  obtain ⟨k, rfl⟩ := Nat.exists_eq_add_of_le h
  exact decF_ge n k

theorem decR_zero : decR 0 = [] := rfl

theorem decR_pos {n : Nat} (h : 0 < n) : decR n = dg n :: decR (n / 10) := by
  obtain ⟨m, rfl⟩ : ∃ m, n = m + 1 := ⟨n - 1, by omega⟩
  show decF (m + 1) (m + 1) = _
  rw [decF, if_neg (by omega), decF_eq (by omega)]

theorem dl_dec (n : Nat) : dl (decR n) = n := by
  induction n using Nat.strongRecOn with
  | ind n ih =>
    by_cases h : n = 0
    · subst h; rfl
    · rw [decR_pos (by omega), dl, ih _ (by omega), dg_toNat]
      omega

theorem dig_dec (n : Nat) : Dig (decR n) := by
  induction n using Nat.strongRecOn with
  | ind n ih =>
    by_cases h : n = 0
    · subst h; intro c hc; cases hc
    · rw [decR_pos (by omega)]
      intro c hc
      rcases List.mem_cons.1 hc with rfl | hc
      · rw [dg_toNat]; omega
      · exact ih _ (by omega) c hc

theorem dig_cons {c : UInt8} {t : List UInt8} : Dig (c :: t) ↔ (48 ≤ c.toNat ∧ c.toNat ≤ 57) ∧ Dig t := by
  constructor
  · exact fun h => ⟨h c (by simp), fun x hx => h x (by simp [hx])⟩
  · rintro ⟨h, k⟩ x hx
    rcases List.mem_cons.1 hx with rfl | hx
    · exact h
    · exact k x hx

theorem dig_append {a b : List UInt8} (h : Dig a) (k : Dig b) : Dig (a ++ b) := by
  intro x hx
  rcases List.mem_append.1 hx with hx | hx
  · exact h x hx
  · exact k x hx

theorem dig_nil : Dig [] := fun c hc => by cases hc

theorem dig_rev {l : List UInt8} (h : Dig l) : Dig l.reverse := fun c hc => h c (List.mem_reverse.1 hc)

theorem dl_append (a b : List UInt8) : dl (a ++ b) = dl a + 10 ^ a.length * dl b := by
  induction a with
  | nil => simp [dl]
  | cons c t ih =>
    simp only [List.cons_append, dl, ih, List.length_cons, Nat.pow_succ, Nat.mul_add]
    rw [Nat.mul_comm (10 ^ t.length) 10, Nat.mul_assoc]
    omega

theorem dl_snoc (a : List UInt8) (k : Nat) : dl (a ++ [dg k]) = dl a + 10 ^ a.length * (k % 10) := by
  rw [dl_append]
  simp [dl, dg_toNat]

/-- Digits without zeros at the top are the number's. -/
theorem dec_eq : ∀ {l : List UInt8}, Dig l → (∀ c, l.getLast? = some c → c ≠ 48) → l = decR (dl l)
  | [], _, _ => rfl
  | c :: t, hd, ht => by
    have h1 := (dig_cons.1 hd).1
    have h2 := (dig_cons.1 hd).2
    have h3 : ∀ x, t.getLast? = some x → x ≠ 48 := by
      intro x hx
      apply ht
      cases t with
      | nil => simp at hx
      | cons y t => rw [List.getLast?_cons_cons]; exact hx
    have ih := dec_eq h2 h3
    have hpos : 0 < dl (c :: t) := by
      rw [dl]
      cases t with
      | nil =>
        have := ht c rfl
        have h4 : c.toNat ≠ 48 := fun e => this (UInt8.toNat_inj.1 e)
        omega
      | cons y t =>
        have : dl (y :: t) ≠ 0 := by
          intro e
          rw [e, decR_zero] at ih
          cases ih
        omega
    have hm : dl (c :: t) % 10 = c.toNat - 48 := by rw [dl]; omega
    have hq : dl (c :: t) / 10 = dl t := by rw [dl]; omega
    rw [decR_pos hpos, hq, ← ih]
    congr 1
    apply UInt8.toNat_inj.1
    rw [dg_toNat, hm]
    omega

/-- Zeros at the top are dropped. -/
theorem dec_drop : ∀ {l : List UInt8}, Dig l.reverse → l.dropWhile (· == 48) = decS (dl l.reverse)
  | [], _ => rfl
  | c :: t, hd => by
    rw [List.reverse_cons] at hd
    have h2 : Dig t.reverse := fun x hx => hd x (by simp [List.mem_reverse.1 hx])
    by_cases h : c = 48
    · subst h
      rw [List.dropWhile_cons_of_pos (by rfl), dec_drop h2, List.reverse_cons, dl_append]
      simp [dl]
    · rw [List.dropWhile_cons_of_neg (by simpa using h)]
      unfold decS
      rw [← dec_eq (by rw [List.reverse_cons]; exact hd) (fun x hx => by
        rw [List.reverse_cons, List.getLast?_append] at hx
        simp at hx
        exact hx ▸ h), List.reverse_reverse]

theorem dec_top (n : Nat) : ∀ c, (decR n).getLast? = some c → c ≠ 48 := by
  induction n using Nat.strongRecOn with
  | ind n ih =>
    by_cases h : n = 0
    · subst h; intro c hc; cases hc
    · rw [decR_pos (by omega)]
      intro c hc
      by_cases h2 : n / 10 = 0
      · rw [h2, decR_zero] at hc
        simp at hc
        subst hc
        intro e
        have := congrArg UInt8.toNat e
        rw [dg_toNat] at this
        have h3 : (48 : UInt8).toNat = 48 := rfl
        omega
      · refine ih (n / 10) (by omega) c ?_
        rw [decR_pos (show 0 < n / 10 by omega)] at hc ⊢
        rwa [List.getLast?_cons_cons] at hc

theorem decS_nil {n : Nat} : decS n = [] ↔ n = 0 := by
  unfold decS
  constructor
  · intro h
    have h2 : decR n = [] := List.reverse_eq_nil_iff.1 h
    have := dl_dec n
    rw [h2] at this
    exact this.symm
  · rintro rfl; rfl

/-- The value of digits, the highest first. -/
def dv (l : List UInt8) : Nat := dl l.reverse

theorem dv_snoc (l : List UInt8) (c : UInt8) : dv (l ++ [c]) = 10 * dv l + (c.toNat - 48) := by
  unfold dv
  rw [List.reverse_append]
  simp [dl]
  omega

theorem dv_nil : dv [] = 0 := rfl

theorem dv_dec (n : Nat) : dv (decS n) = n := by unfold dv decS; rw [List.reverse_reverse, dl_dec]

theorem dl_lt : ∀ {l : List UInt8}, Dig l → dl l < 10 ^ l.length
  | [], _ => by simp [dl]
  | c :: t, h => by
    have h1 := (dig_cons.1 h).1
    have := dl_lt (dig_cons.1 h).2
    rw [dl, List.length_cons, Nat.pow_succ]
    omega

theorem dv_lt {l : List UInt8} (h : Dig l) : dv l < 10 ^ l.length := by
  have := dl_lt (dig_rev h)
  rwa [List.length_reverse] at this

theorem ten_pow_lt {k m : Nat} (h : k ≤ 3000) (hm : m = 400) : 10 ^ k < 4294967296 ^ m := by
  have h1 : 10 ^ k ≤ 2 ^ (4 * k) := by rw [Nat.pow_mul]; exact Nat.pow_le_pow_left (by decide) k
  have h4 : 4294967296 ^ m = 2 ^ (32 * m) := by rw [Nat.pow_mul]
  rw [h4]
  exact Nat.lt_of_le_of_lt h1 (Nat.pow_lt_pow_right (by omega) (by omega))

/-- A string of at most 3000 digits is a number of at most 400 limbs. -/
theorem dv_limbs {l : List UInt8} (h : Dig l) (hl : l.length ≤ 3000) : (limbs (dv l)).length ≤ 400 := by
  obtain ⟨m, hm⟩ : ∃ m, m = 400 := ⟨_, rfl⟩
  rw [← hm]
  exact limbs_len_le.2 (Nat.lt_trans (dv_lt h) (ten_pow_lt hl hm))

/-- What Text hands back. -/
def textZ (n : Bool) (v : Nat) : List UInt8 := if v = 0 then [48] else if n then 45 :: decS v else decS v

def textS (n : Bool) (l : List Nat) : List UInt8 × Int := if badL n l then ([], 8) else (textZ n (val l), 0)

/-- What Parse hands back. -/
def parOk (s : List UInt8) : Bool := !(Lib.trimPrefix s [45]).isEmpty && (!((Lib.trimPrefix s [45]).head? == some 48) || s == [48]) && digB (Lib.trimPrefix s [45])

def parseS (s : List UInt8) : (Bool × List Nat) × Int := if parOk s then outN (Lib.hasPrefix s [45]) (dv (Lib.trimPrefix s [45])) else ((false, []), 12)

end Go.Proofs.YthlfidbhldbedaaDoor

/- Plain arithmetic of limbs of 32 bits: value of a list, canonical list of a number, trimming, comparing. No program in sight. -/
namespace Go.Proofs.Ytejapkdhbpngbaa

def val : List Nat → Nat
  | [] => 0
  | x :: t => x + 4294967296 * val t
def Lim (l : List Nat) : Prop := ∀ x ∈ l, x < 4294967296
def limbsF : Nat → Nat → List Nat
  | 0, _ => []
  | f + 1, n => if n = 0 then [] else n % 4294967296 :: limbsF f (n / 4294967296)
def limbs (n : Nat) : List Nat := limbsF n n
def Canon (l : List Nat) : Prop := Lim l ∧ (0 < l.length → l[l.length - 1]?.getD 0 ≠ 0)
def trimN (l : List Nat) : Nat → Nat
  | 0 => 0
  | n + 1 => if l[n]?.getD 0 = 0 then trimN l n else n + 1
def pv (l : List Nat) (i : Nat) : Nat := val (l.take i)
def cmpTop (a b : List Nat) : Nat → Int
  | 0 => 0
  | n + 1 => if a[n]?.getD 0 < b[n]?.getD 0 then -1 else if b[n]?.getD 0 < a[n]?.getD 0 then 1 else cmpTop a b n
def cmpL (a b : List Nat) : Int := if a.length = b.length then cmpTop a b a.length else if a.length < b.length then -1 else 1
def cmpN (a b : Nat) : Int := if a < b then -1 else if b < a then 1 else 0

theorem limbsF_fuel : ∀ (f n : Nat), n ≤ f → limbsF f n = limbsF (f + 1) n
  | 0, n, h => by
    obtain rfl : n = 0 := by omega
    simp [limbsF]
  | f + 1, n, h => by
    rw [limbsF, limbsF]
    by_cases h0 : n = 0
    · simp [h0]
    · rw [if_neg h0, if_neg h0, limbsF_fuel f (n / 4294967296) (by omega)]
theorem limbsF_ge (n : Nat) : ∀ k, limbsF (n + k) n = limbs n
  | 0 => rfl
  | k + 1 => by rw [← Nat.add_assoc, ← limbsF_fuel (n + k) n (by omega)]; exact limbsF_ge n k
theorem limbsF_eq {f n : Nat} (h : n ≤ f) : limbsF f n = limbs n := by
  have := limbsF_ge n (f - n)
  rwa [show n + (f - n) = f by omega] at this
theorem limbs_zero : limbs 0 = [] := rfl
theorem limbs_pos {n : Nat} (h : 0 < n) : limbs n = n % 4294967296 :: limbs (n / 4294967296) := by
  obtain ⟨m, rfl⟩ : ∃ m, n = m + 1 := ⟨n - 1, by omega⟩
  conv => lhs; rw [limbs, limbsF]
  rw [if_neg (by omega), limbsF_eq (by omega)]
theorem limbs_cons {x m : Nat} (hx : x < 4294967296) (h : 0 < x + 4294967296 * m) : limbs (x + 4294967296 * m) = x :: limbs m := by
  rw [limbs_pos h, show (x + 4294967296 * m) % 4294967296 = x by omega, show (x + 4294967296 * m) / 4294967296 = m by omega]

theorem val_limbs (n : Nat) : val (limbs n) = n := by
  induction n using Nat.strongRecOn with
  | ind n ih =>
    rcases Nat.eq_zero_or_pos n with rfl | h
    · rfl
    · rw [limbs_pos h, val, ih (n / 4294967296) (by omega)]; omega
theorem lim_limbs (n : Nat) : Lim (limbs n) := by
  induction n using Nat.strongRecOn with
  | ind n ih =>
    rcases Nat.eq_zero_or_pos n with rfl | h
    · intro x hx; cases hx
    · rw [limbs_pos h]
      intro x hx
      rcases List.mem_cons.1 hx with rfl | hx
      · omega
      · exact ih _ (by omega) x hx
theorem limbs_eq_nil {n : Nat} : limbs n = [] ↔ n = 0 := by
  constructor
  · intro h
    have := val_limbs n
    rw [h] at this
    exact this.symm
  · rintro rfl; rfl
theorem lim_cons {x : Nat} {t : List Nat} : Lim (x :: t) ↔ x < 4294967296 ∧ Lim t := by
  unfold Lim
  simp
theorem canon_tail {x : Nat} {t : List Nat} (h : Canon (x :: t)) : Canon t := by
  refine ⟨(lim_cons.1 h.1).2, fun hp => ?_⟩
  have := h.2 (by simp)
  rw [show (x :: t).length - 1 = (t.length - 1) + 1 by simp; omega, List.getElem?_cons_succ] at this
  exact this
theorem canon_val_pos {l : List Nat} (h : Canon l) (hl : 0 < l.length) : 0 < val l := by
  induction l with
  | nil => simp at hl
  | cons x t ih =>
    rw [val]
    cases t with
    | nil => have := h.2 (by simp); simp at this; omega
    | cons y s => have := ih (canon_tail h) (by simp); omega
theorem canon_eq {l : List Nat} (h : Canon l) : limbs (val l) = l := by
  induction l with
  | nil => rfl
  | cons x t ih =>
    have hp := canon_val_pos h (by simp)
    rw [val] at hp ⊢
    rw [limbs_cons (lim_cons.1 h.1).1 hp, ih (canon_tail h)]
theorem canon_limbs (n : Nat) : Canon (limbs n) := by
  refine ⟨lim_limbs n, ?_⟩
  induction n using Nat.strongRecOn with
  | ind n ih =>
    rcases Nat.eq_zero_or_pos n with rfl | h
    · intro hx; simp [limbs_zero] at hx
    · rw [limbs_pos h]
      intro _
      rcases Nat.eq_zero_or_pos (n / 4294967296) with h0 | h0
      · rw [h0, limbs_zero]; simp; omega
      · have hl : 0 < (limbs (n / 4294967296)).length := by
          rcases Nat.eq_zero_or_pos (limbs (n / 4294967296)).length with e | e
          · rw [List.length_eq_zero_iff, limbs_eq_nil] at e; omega
          · exact e
        have := ih _ (by omega) hl
        rw [List.length_cons, show (limbs (n / 4294967296)).length + 1 - 1 = ((limbs (n / 4294967296)).length - 1) + 1 by omega, List.getElem?_cons_succ]
        exact this

theorem pv_zero (l : List Nat) : pv l 0 = 0 := by simp [pv, val]
theorem val_append (a b : List Nat) : val (a ++ b) = val a + 4294967296 ^ a.length * val b := by
  induction a with
  | nil => simp [val]
  | cons x t ih =>
    rw [List.cons_append, val, ih, val, List.length_cons, Nat.pow_succ, Nat.mul_add, Nat.add_assoc, Nat.mul_comm (4294967296 ^ t.length) 4294967296, Nat.mul_assoc]
theorem pv_succ (l : List Nat) (i : Nat) : pv l (i + 1) = pv l i + l[i]?.getD 0 * 4294967296 ^ i := by
  unfold pv
  rcases Nat.lt_or_ge i l.length with h | h
  · rw [List.take_add_one, List.getElem?_eq_getElem h, val_append]
    simp [val, Nat.min_eq_left (Nat.le_of_lt h), Nat.mul_comm]
  · rw [List.take_of_length_le (by omega), List.take_of_length_le h, List.getElem?_eq_none h]; simp
theorem pv_all {l : List Nat} {n : Nat} (h : l.length ≤ n) : pv l n = val l := by rw [pv, List.take_of_length_le h]
theorem getD_lim {l : List Nat} (h : Lim l) (i : Nat) : l[i]?.getD 0 < 4294967296 := by
  rcases Nat.lt_or_ge i l.length with hi | hi
  · rw [List.getElem?_eq_getElem hi]; exact h _ (List.getElem_mem hi)
  · rw [List.getElem?_eq_none hi]; simp
theorem pv_lt {l : List Nat} (h : Lim l) : ∀ i, pv l i < 4294967296 ^ i
  | 0 => by simp [pv_zero]
  | i + 1 => by
    have h1 := pv_lt h i
    have h2 := getD_lim h i
    rw [pv_succ, Nat.pow_succ]
    have h3 : (l[i]?.getD 0 + 1) * 4294967296 ^ i ≤ 4294967296 * 4294967296 ^ i := Nat.mul_le_mul_right _ (by omega)
    rw [Nat.add_mul] at h3
    rw [Nat.mul_comm (4294967296 ^ i)]
    omega
theorem val_lt {l : List Nat} (h : Lim l) : val l < 4294967296 ^ l.length := by
  have := pv_lt h l.length
  rwa [pv_all (Nat.le_refl _)] at this
theorem pv_set (l : List Nat) (j x : Nat) : ∀ {i : Nat}, i ≤ j → pv (l.set j x) i = pv l i
  | 0, _ => by simp [pv_zero]
  | i + 1, h => by
    rw [pv_succ, pv_succ, pv_set l j x (by omega), List.getElem?_set_ne (by omega)]
theorem pv_congr {a b : List Nat} : ∀ {i : Nat}, (∀ j, j < i → a[j]?.getD 0 = b[j]?.getD 0) → pv a i = pv b i
  | 0, _ => by simp [pv_zero]
  | i + 1, h => by
    rw [pv_succ, pv_succ, pv_congr (fun j hj => h j (by omega)), h i (by omega)]
theorem lim_set {l : List Nat} (h : Lim l) {j x : Nat} (hx : x < 4294967296) : Lim (l.set j x) := by
  intro y hy
  rcases List.mem_or_eq_of_mem_set hy with h1 | rfl
  · exact h y h1
  · exact hx
theorem lim_replicate (n : Nat) : Lim (List.replicate n 0) := by
  intro x hx
  have := List.eq_of_mem_replicate hx
  omega
theorem lim_take {l : List Nat} (h : Lim l) (n : Nat) : Lim (l.take n) := fun x hx => h x (List.mem_of_mem_take hx)
theorem lim_drop {l : List Nat} (h : Lim l) (n : Nat) : Lim (l.drop n) := fun x hx => h x (List.mem_of_mem_drop hx)
theorem lim_append {a b : List Nat} (h : Lim a) (h' : Lim b) : Lim (a ++ b) := by
  intro x hx
  rcases List.mem_append.1 hx with h1 | h1
  · exact h x h1
  · exact h' x h1
theorem lim_nil : Lim [] := fun x hx => by cases hx
theorem lim_one {x : Nat} (h : x < 4294967296) : Lim [x] := lim_cons.2 ⟨h, lim_nil⟩

theorem trimN_le (l : List Nat) : ∀ n, trimN l n ≤ n
  | 0 => Nat.le_refl _
  | n + 1 => by
    rw [trimN]
    split
    · have := trimN_le l n; omega
    · omega
theorem pv_trimN (l : List Nat) : ∀ n, pv l (trimN l n) = pv l n
  | 0 => rfl
  | n + 1 => by
    rw [trimN]
    split
    · next h => rw [pv_trimN l n, pv_succ, h]; simp
    · rfl
theorem trimN_top (l : List Nat) : ∀ n, 0 < trimN l n → l[trimN l n - 1]?.getD 0 ≠ 0
  | 0, h => by simp [trimN] at h
  | n + 1, h => by
    rw [trimN] at h ⊢
    split
    · next h0 => rw [if_pos h0] at h; exact trimN_top l n h
    · next h0 => simpa using h0
theorem canon_trim {l : List Nat} (h : Lim l) (n : Nat) (hn : n ≤ l.length) : Canon (l.take (trimN l n)) := by
  have hle := trimN_le l n
  refine ⟨lim_take h _, fun hp => ?_⟩
  rw [List.length_take, Nat.min_eq_left (by omega)] at hp ⊢
  rw [List.getElem?_take_of_lt (by omega)]
  exact trimN_top l n hp
theorem trim_eq {l : List Nat} (h : Lim l) : l.take (trimN l l.length) = limbs (val l) := by
  have hc := canon_trim h l.length (Nat.le_refl _)
  rw [← canon_eq hc]
  congr 1
  have := pv_trimN l l.length
  rw [pv_all (Nat.le_refl _)] at this
  exact this
theorem trim_len {l : List Nat} (h : Lim l) : trimN l l.length = (limbs (val l)).length := by
  rw [← trim_eq h, List.length_take, Nat.min_eq_left (trimN_le _ _)]

theorem limbs_len_le {n k : Nat} : (limbs n).length ≤ k ↔ n < 4294967296 ^ k := by
  constructor
  · intro h
    have h1 := val_lt (lim_limbs n)
    rw [val_limbs] at h1
    exact Nat.lt_of_lt_of_le h1 (Nat.pow_le_pow_right (by omega) h)
  · intro h
    rcases Nat.lt_or_ge k (limbs n).length with hk | hk
    · exfalso
      have hc := (canon_limbs n).2 (by omega)
      have h1 : pv (limbs n) (limbs n).length = n := by rw [pv_all (Nat.le_refl _), val_limbs]
      rw [show (limbs n).length = ((limbs n).length - 1) + 1 by omega, pv_succ] at h1
      have h2 : 4294967296 ^ k ≤ 4294967296 ^ ((limbs n).length - 1) := Nat.pow_le_pow_right (by omega) (by omega)
      have h3 : 1 * 4294967296 ^ ((limbs n).length - 1) ≤ (limbs n)[(limbs n).length - 1]?.getD 0 * 4294967296 ^ ((limbs n).length - 1) := Nat.mul_le_mul_right _ (by omega)
      omega
    · exact hk
theorem canon_inj {a b : List Nat} (ha : Canon a) (hb : Canon b) (h : val a = val b) : a = b := by rw [← canon_eq ha, ← canon_eq hb, h]
theorem canon_nil : Canon [] := ⟨lim_nil, fun h => by simp at h⟩

theorem cmpTop_pv {a b : List Nat} (ha : Lim a) (hb : Lim b) : ∀ n, cmpTop a b n = cmpN (pv a n) (pv b n)
  | 0 => by simp [cmpTop, pv_zero, cmpN]
  | n + 1 => by
    have h1 := pv_lt ha n
    have h2 := pv_lt hb n
    rw [cmpTop, cmpTop_pv ha hb n, pv_succ, pv_succ]
    generalize a[n]?.getD 0 = x, b[n]?.getD 0 = y at *
    generalize 4294967296 ^ n = p at *
    rcases Nat.lt_trichotomy x y with h | h | h
    · have h3 : (x + 1) * p ≤ y * p := Nat.mul_le_mul_right _ h
      rw [Nat.add_mul] at h3
      rw [if_pos h, cmpN, if_pos (by omega)]
    · subst h
      rw [if_neg (by omega), if_neg (by omega)]
      simp only [cmpN, Nat.add_lt_add_iff_right]
    · have h3 : (y + 1) * p ≤ x * p := Nat.mul_le_mul_right _ h
      rw [Nat.add_mul] at h3
      rw [if_neg (by omega), if_pos h, cmpN, if_neg (by omega), if_pos (by omega)]
theorem cmpL_canon {a b : List Nat} (ha : Canon a) (hb : Canon b) : cmpL a b = cmpN (val a) (val b) := by
  unfold cmpL
  by_cases h : a.length = b.length
  · rw [if_pos h, cmpTop_pv ha.1 hb.1, pv_all (Nat.le_refl _), h, pv_all (Nat.le_refl _)]
  · rw [if_neg h]
    have key : ∀ {c d : List Nat}, Canon c → Canon d → c.length < d.length → val c < val d := by
      intro c d hc hd hlt
      have h1 := val_lt hc.1
      have h2 := hd.2 (by omega)
      have h3 : pv d d.length = val d := pv_all (Nat.le_refl _)
      rw [show d.length = (d.length - 1) + 1 by omega, pv_succ] at h3
      have h4 : 4294967296 ^ c.length ≤ 4294967296 ^ (d.length - 1) := Nat.pow_le_pow_right (by omega) (by omega)
      have h5 : 1 * 4294967296 ^ (d.length - 1) ≤ d[d.length - 1]?.getD 0 * 4294967296 ^ (d.length - 1) := Nat.mul_le_mul_right _ (by omega)
      omega
    rcases Nat.lt_or_ge a.length b.length with hl | hl
    · have := key ha hb hl
      rw [if_pos hl, cmpN, if_pos this]
    · have := key hb ha (by omega)
      rw [if_neg (by omega), cmpN, if_neg (by omega), if_pos this]
theorem cmpTop_zero {a b : List Nat} : ∀ {n : Nat}, cmpTop a b n = 0 → ∀ i, i < n → a[i]?.getD 0 = b[i]?.getD 0
  | 0, _, i, hi => by omega
  | n + 1, h, i, hi => by
    rw [cmpTop] at h
    by_cases h1 : a[n]?.getD 0 < b[n]?.getD 0
    · rw [if_pos h1] at h; omega
    · rw [if_neg h1] at h
      by_cases h2 : b[n]?.getD 0 < a[n]?.getD 0
      · rw [if_pos h2] at h; omega
      · rw [if_neg h2] at h
        rcases Nat.lt_or_ge i n with h3 | h3
        · exact cmpTop_zero h i h3
        · obtain rfl : i = n := by omega
          omega
theorem cmpTop_self (a : List Nat) : ∀ n, cmpTop a a n = 0
  | 0 => rfl
  | n + 1 => by rw [cmpTop, if_neg (by omega), if_neg (by omega), cmpTop_self a n]
theorem cmpL_zero {a b : List Nat} : cmpL a b = 0 ↔ a = b := by
  constructor
  · intro h
    unfold cmpL at h
    by_cases hl : a.length = b.length
    · rw [if_pos hl] at h
      apply List.ext_getElem hl
      intro i h1 h2
      have := cmpTop_zero h i h1
      simpa [List.getElem?_eq_getElem h1, List.getElem?_eq_getElem h2] using this
    · rw [if_neg hl] at h
      split at h <;> omega
  · rintro rfl
    rw [cmpL, if_pos rfl, cmpTop_self]
theorem cmpTop_cases (a b : List Nat) : ∀ n, cmpTop a b n = -1 ∨ cmpTop a b n = 0 ∨ cmpTop a b n = 1
  | 0 => .inr (.inl rfl)
  | n + 1 => by
    rw [cmpTop]
    split
    · exact .inl rfl
    · split
      · exact .inr (.inr rfl)
      · exact cmpTop_cases a b n
theorem cmpN_cases (a b : Nat) : (cmpN a b = -1 ∧ a < b) ∨ (cmpN a b = 0 ∧ a = b) ∨ (cmpN a b = 1 ∧ b < a) := by
  unfold cmpN
  rcases Nat.lt_trichotomy a b with h | h | h
  · exact .inl ⟨if_pos h, h⟩
  · exact .inr (.inl ⟨by rw [if_neg (by omega), if_neg (by omega)], h⟩)
  · exact .inr (.inr ⟨by rw [if_neg (by omega), if_pos h], h⟩)

def greatB (l : List Nat) : Bool := (decide (300 < l.length) && decide (l.length ≤ 4096)) || decide (4106 < l.length)
def badL (neg : Bool) (l : List Nat) : Bool := (decide (4096 < l.length) || (decide (0 < l.length) && l[l.length - 1]?.getD 0 == 0)) || (decide (l.length = 0) && neg)
def chk (neg : Bool) (l : List Nat) : Int := if badL neg l then 8 else 0
def chk2 (n1 : Bool) (l1 : List Nat) (n2 : Bool) (l2 : List Nat) : Int := if badL n1 l1 then 8 else chk n2 l2
theorem chk_bad {neg : Bool} {l : List Nat} (h : badL neg l = true) : chk neg l = 8 := by rw [chk, if_pos h]
theorem chk_good {neg : Bool} {l : List Nat} (h : badL neg l = false) : chk neg l = 0 := by rw [chk, if_neg (by simp [h])]
theorem good_canon {neg : Bool} {l : List Nat} (hl : Lim l) (h : badL neg l = false) : Canon l ∧ l.length ≤ 4096 ∧ (neg = true → 0 < l.length) := by
  simp only [badL, Bool.or_eq_false_iff, Bool.and_eq_false_iff, decide_eq_false_iff_not, beq_eq_false_iff_ne] at h
  obtain ⟨⟨h1, h2⟩, h3⟩ := h
  refine ⟨⟨hl, fun hp => ?_⟩, by omega, fun hn => ?_⟩
  · rcases h2 with h2 | h2
    · omega
    · exact h2
  · rcases h3 with h3 | h3
    · omega
    · rw [hn] at h3; cases h3

/-- The number with this sign and absolute value, or ErrRange. -/
def outN (neg : Bool) (n : Nat) : (Bool × List Nat) × Int := if (limbs n).length ≤ 4096 then ((neg && decide (0 < n), limbs n), 0) else ((false, []), 16)
theorem limbs_len_pos {n : Nat} : 0 < (limbs n).length ↔ 0 < n := by
  rw [List.length_pos_iff, ne_eq, limbs_eq_nil]; omega

end Go.Proofs.Ytejapkdhbpngbaa

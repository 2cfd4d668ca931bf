/- Text and Parse are inverse. No program in sight. -/
import Derived.Test.YthlfidbhldbedaaDoorMathZ
import Derived.Test.YthlfidbhldbedaaDoorDec
namespace Go.Proofs.YthlfidbhldbedaaDoor
open Go.Lib
theorem decR_len (n : Nat) : 0 < n → 10 ^ ((decR n).length - 1) ≤ n := by
  induction n using Nat.strongRecOn with
  | ind n ih =>
    intro h
    rw [decR_pos h, List.length_cons, Nat.add_sub_cancel]
    by_cases h2 : n / 10 = 0
    · rw [h2, decR_zero]; simp; omega
    · have h3 := ih (n / 10) (by omega) (by omega)
      obtain ⟨m, hm⟩ : ∃ m, (decR (n / 10)).length = m + 1 := by
        rw [decR_pos (show 0 < n / 10 by omega)]; exact ⟨_, rfl⟩
      rw [hm, Nat.add_sub_cancel] at h3
      rw [hm, Nat.pow_succ]
      omega

/-- A number below 2^e has few digits. -/
theorem dig_count {n e : Nat} (h : n < 2 ^ e) : (decR n).length ≤ 10 * (e / 33) + 11 := by
  rcases Nat.eq_zero_or_pos n with rfl | hp
  · rw [decR_zero]; simp
  · have h1 := decR_len n hp
    generalize (decR n).length = m at *
    rcases Nat.lt_or_ge (10 * (e / 33) + 11) m with hm | hm
    · exfalso
      have h2 : 10 ^ (10 * (e / 33 + 1)) ≤ 10 ^ (m - 1) := Nat.pow_le_pow_right (by omega) (by omega)
      have h3 : (2 : Nat) ^ (33 * (e / 33 + 1)) ≤ 10 ^ (10 * (e / 33 + 1)) := by
        rw [Nat.pow_mul, Nat.pow_mul]
        exact Nat.pow_le_pow_left (by decide) _
      have h4 : (2 : Nat) ^ e ≤ 2 ^ (33 * (e / 33 + 1)) := Nat.pow_le_pow_right (by omega) (by omega)
      omega
    · exact hm

theorem decS_len (n : Nat) : (decS n).length = (decR n).length := by unfold decS; rw [List.length_reverse]

theorem text_len {n : Bool} {v e : Nat} (h : v < 2 ^ e) : (textZ n v).length ≤ 10 * (e / 33) + 12 := by
  have := dig_count h
  unfold textZ
  split
  · simp
  · split
    · rw [List.length_cons, decS_len]; omega
    · rw [decS_len]; omega

theorem decS_head {n : Nat} (h : 0 < n) : ∃ c t, decS n = c :: t ∧ c ≠ 48 ∧ 48 ≤ c.toNat ∧ c.toNat ≤ 57 := by
  unfold decS
  have h1 : decR n ≠ [] := by rw [decR_pos h]; simp
  have h2 := dec_top n _ (List.getLast?_eq_some_getLast h1)
  have h3 := dig_dec n _ (List.getLast_mem h1)
  refine ⟨(decR n).getLast h1, (decR n).dropLast.reverse, ?_, h2, h3⟩
  conv => lhs; rw [← List.dropLast_concat_getLast h1]
  rw [List.reverse_append]
  rfl

theorem decS_dig (n : Nat) : digB (decS n) = true := digB_iff.2 (dig_rev (dig_dec n))

theorem hp_ne {c : UInt8} {t : List UInt8} (h : c ≠ 45) : hasPrefix (c :: t) [45] = false := by
  cases h2 : hasPrefix (c :: t) [45] with
  | false => rfl
  | true => exact absurd (by simp [hasPrefix, List.isPrefixOf] at h2; first | exact h2 | exact h2.symm) h

theorem tp_ne {c : UInt8} {t : List UInt8} (h : c ≠ 45) : trimPrefix (c :: t) [45] = c :: t := by unfold trimPrefix; rw [hp_ne h]; rfl

theorem tp_eq (t : List UInt8) : trimPrefix (45 :: t) [45] = t := by simp [trimPrefix, hasPrefix]

theorem hp_eq (t : List UInt8) : hasPrefix (45 :: t) [45] = true := by simp [hasPrefix]

theorem parse_text {n : Bool} {l : List Nat} {z : Int} (h : VZ n l z) : parseS (textZ n (val l)) = ((n, l), 0) := by
  have hn := h.neg_eq
  have hl := h.limbs_eq
  have hv := h.val_eq
  have hfit : (limbs z.natAbs).length ≤ 4096 := h.2
  unfold textZ
  rw [hv]
  by_cases h0 : z = 0
  · subst h0
    rw [if_pos (by simp), hn, hl]
    rfl
  · have hp : 0 < z.natAbs := by omega
    rw [if_neg (by omega)]
    obtain ⟨c, t, e, hc48, hc1, hc2⟩ := decS_head hp
    have hd := decS_dig z.natAbs
    have hdv := dv_dec z.natAbs
    have hc45 : c ≠ 45 := by
      rintro rfl
      have : (45 : UInt8).toNat = 45 := rfl
      omega
    have hh : (some c == some (48 : UInt8)) = false := by simpa using hc48
    cases n with
    | true =>
      rw [if_pos rfl]
      unfold parseS parOk
      rw [tp_eq, hp_eq, hd, hdv, e]
      simp only [List.isEmpty_cons, List.head?_cons, hh, Bool.not_false, Bool.true_or, Bool.true_and, if_true]
      unfold outN
      rw [if_pos hfit, decide_eq_true hp, ← hl]
      rfl
    | false =>
      rw [if_neg (by simp)]
      unfold parseS parOk
      rw [e] at hd hdv ⊢
      rw [tp_ne hc45, hp_ne hc45, hd, hdv]
      simp only [List.isEmpty_cons, List.head?_cons, hh, Bool.not_false, Bool.true_or, Bool.true_and, if_true]
      unfold outN
      rw [if_pos hfit, ← hl]
      rfl

/-- What Parse reads, Text writes. -/
theorem text_parse {ss : List UInt8} {n : Bool} {l : List Nat} (h : parseS ss = ((n, l), 0)) : textZ n (val l) = ss ∧ badL n l = false := by
  unfold parseS at h
  by_cases hp : parOk ss = true
  · rw [if_pos hp] at h
    have hfit : (limbs (dv (trimPrefix ss [45]))).length ≤ 4096 := by
      unfold outN at h
      split at h
      · assumption
      · cases h
    unfold outN at h
    rw [if_pos hfit] at h
    obtain ⟨⟨h1, h2⟩, _⟩ : (_ ∧ _) ∧ True := ⟨Prod.mk.inj (Prod.mk.inj h).1, trivial⟩
    subst h1
    subst h2
    rw [val_limbs]
    unfold parOk at hp
    simp only [Bool.and_eq_true] at hp
    obtain ⟨⟨hne, hz⟩, hd⟩ := hp
    have hgood : badL (hasPrefix ss [45] && decide (0 < dv (trimPrefix ss [45]))) (limbs (dv (trimPrefix ss [45]))) = false := by
      have := wOf_good (if hasPrefix ss [45] then -((dv (trimPrefix ss [45]) : Nat) : Int) else ((dv (trimPrefix ss [45]) : Nat) : Int)) (by
        have e : (if hasPrefix ss [45] = true then -((dv (trimPrefix ss [45]) : Nat) : Int) else ((dv (trimPrefix ss [45]) : Nat) : Int)).natAbs = dv (trimPrefix ss [45]) := by split <;> simp
        rw [e]; exact hfit)
      have h3 := outN_fit (neg := hasPrefix ss [45]) hfit
      unfold outN at h3
      rw [if_pos hfit] at h3
      rw [← (Prod.mk.inj h3).1] at this
      exact this
    refine ⟨?_, hgood⟩
    rcases ht : trimPrefix ss [45] with _ | ⟨c, t⟩
    · rw [ht] at hne; simp at hne
    · rw [ht] at hne hz hd
      simp only [List.head?_cons, Bool.or_eq_true, Bool.not_eq_true', beq_eq_false_iff_ne, beq_iff_eq] at hz
      have hdig := digB_iff.1 hd
      have hdrop : (c :: t).dropWhile (· == 48) = decS (dv (c :: t)) := dec_drop (dig_rev hdig)
      by_cases hc : c = 48
      · have hs : ss = [48] := by
          rcases hz with hz | hz
          · exact absurd (by rw [hc]) hz
          · exact hz
        subst hs
        have : trimPrefix [48] [45] = [48] := rfl
        rw [this] at ht
        cases ht
        rfl
      · rw [List.dropWhile_cons_of_neg (by simpa using hc)] at hdrop
        have hpos : 0 < dv (c :: t) := by
          rcases Nat.eq_zero_or_pos (dv (c :: t)) with h0 | h0
          · rw [h0] at hdrop
            exact absurd hdrop (by simp [decS, decR_zero])
          · exact h0
        unfold textZ
        rw [if_neg (by omega), ← hdrop, decide_eq_true hpos, Bool.and_true]
        unfold trimPrefix at ht
        cases hh : hasPrefix ss [45] with
        | false =>
          rw [hh] at ht
          simpa using ht.symm
        | true =>
          rw [hh] at ht
          simp only [if_true] at ht ⊢
          rw [← ht]
          rcases ss with _ | ⟨x, ss⟩
          · simp [hasPrefix, List.isPrefixOf] at hh
          · by_cases hx : x = 45
            · subst hx; rfl
            · rw [hp_ne hx] at hh; cases hh
  · rw [if_neg hp] at h
    cases h

theorem parse_err (ss : List UInt8) (hl : ss.length ≤ 3000) : (∃ n l, parseS ss = ((n, l), 0)) ∨ parseS ss = ((false, []), 12) := by
  unfold parseS
  by_cases hp : parOk ss = true
  · rw [if_pos hp]
    left
    have hd : Dig (trimPrefix ss [45]) := by
      unfold parOk at hp
      simp only [Bool.and_eq_true] at hp
      exact digB_iff.1 hp.2
    have htl : (trimPrefix ss [45]).length ≤ 3000 := by
      unfold trimPrefix
      split
      · rw [List.length_drop]; omega
      · exact hl
    have := dv_limbs hd htl
    unfold outN
    rw [if_pos (by omega)]
    exact ⟨_, _, rfl⟩
  · rw [if_neg hp]
    exact .inr rfl

end Go.Proofs.YthlfidbhldbedaaDoor

/- What the functions of numbers hand back, said of whole numbers. No program in sight. -/
import Derived.Test.YthlfidbhldbedaaMath11
namespace Go.Proofs.Ythlfidbhldbedaa
/-- Sign and limbs are a valid form of z. -/
def VZ (n : Bool) (l : List Nat) (z : Int) : Prop := (n, l) = wOf z ∧ fitZ z

theorem vz_of {n : Bool} {l : List Nat} (hl : Lim l) (h : badL n l = false) : VZ n l (zv n l) := good_wOf hl h

theorem vz_wOf {z : Int} (h : fitZ z) : VZ (wOf z).1 (wOf z).2 z := ⟨rfl, h⟩

theorem vz_mk {n : Bool} {l : List Nat} {z : Int} (e : (n, l) = wOf z) (h : fitZ z) : VZ n l z := ⟨e, h⟩

section
variable {n n1 n2 : Bool} {l l1 l2 : List Nat} {x y z : Int}
theorem VZ.good (h : VZ n l z) : badL n l = false := by
  obtain ⟨e, f⟩ := h
  obtain ⟨rfl, rfl⟩ := Prod.mk.inj e
  exact wOf_good z f

theorem VZ.val_eq (h : VZ n l z) : val l = z.natAbs := by
  obtain ⟨e, f⟩ := h
  obtain ⟨rfl, rfl⟩ := Prod.mk.inj e
  exact val_limbs _

theorem VZ.zv_eq (h : VZ n l z) : zv n l = z := by
  obtain ⟨e, f⟩ := h
  obtain ⟨rfl, rfl⟩ := Prod.mk.inj e
  exact zv_wOf z

theorem VZ.canon (h : VZ n l z) : Canon l := by
  obtain ⟨e, f⟩ := h
  obtain ⟨rfl, rfl⟩ := Prod.mk.inj e
  exact canon_limbs _

theorem VZ.neg_eq (h : VZ n l z) : n = decide (z < 0) := by
  obtain ⟨e, f⟩ := h
  obtain ⟨rfl, rfl⟩ := Prod.mk.inj e
  rfl

theorem VZ.limbs_eq (h : VZ n l z) : l = limbs z.natAbs := by
  obtain ⟨e, f⟩ := h
  obtain ⟨rfl, rfl⟩ := Prod.mk.inj e
  rfl

theorem VZ.len (h : VZ n l z) : l.length ≤ 4096 := by rw [h.limbs_eq]; exact h.2

theorem VZ.zero (h : VZ n l z) : l.length = 0 ↔ z = 0 := by
  rw [h.limbs_eq, List.length_eq_zero_iff, limbs_eq_nil]; omega

theorem VZ.pos (h : VZ n l z) : 0 < l.length ↔ z ≠ 0 := by
  rw [Nat.pos_iff_ne_zero, ne_eq, h.zero]

theorem VZ.chk (h : VZ n l z) : chk n l = 0 := chk_good h.good

theorem VZ.inj (h : VZ n1 l1 z) (k : VZ n2 l2 z) : (n1, l1) = (n2, l2) := h.1.trans k.1.symm

theorem VZ.lt (h : VZ n l z) : z.natAbs < 4294967296 ^ l.length := by
  have := val_lt h.canon.1
  rwa [h.val_eq] at this

theorem VZ.lt_of {k : Nat} (h : VZ n l z) (hk : l.length ≤ k) : z.natAbs < 4294967296 ^ k := Nat.lt_of_lt_of_le h.lt (Nat.pow_le_pow_right (by omega) hk)

theorem fit_of_lt {k : Nat} (h : z.natAbs < 4294967296 ^ k) (hk : k ≤ 4096) : fitZ z := Nat.le_trans (limbs_len_le.2 h) hk

theorem len_of_lt {k : Nat} (h : VZ n l z) (hk : z.natAbs < 4294967296 ^ k) : l.length ≤ k := by rw [h.limbs_eq]; exact limbs_len_le.2 hk

theorem fit_le_of (hx : fitZ x) (h : z.natAbs ≤ x.natAbs) : fitZ z := fit_mono h hx

theorem outN_false (n : Nat) : outN false n = outZ (n : Int) := by rw [outN_zv]; rfl

theorem zv_val (n : Bool) (l : List Nat) : (zv n l).natAbs = val l := by unfold zv; cases n <;> simp

theorem addS_z (h1 : VZ n1 l1 x) (h2 : VZ n2 l2 y) (hf : fitZ (x + y)) : addS n1 l1 n2 l2 = (wOf (x + y), 0) := by
  unfold addS
  rw [h1.good, h2.good, if_neg (by simp), h1.zv_eq, h2.zv_eq, outZ_is hf]

theorem subS_z (h1 : VZ n1 l1 x) (h2 : VZ n2 l2 y) (hf : fitZ (x - y)) : subS n1 l1 n2 l2 = (wOf (x - y), 0) := by
  unfold subS
  rw [h1.good, h2.good, if_neg (by simp), h1.zv_eq, h2.zv_eq, outZ_is hf]

theorem mulS_z (h1 : VZ n1 l1 x) (h2 : VZ n2 l2 y) (hf : fitZ (x * y)) : mulS n1 l1 n2 l2 = (wOf (x * y), 0) := by
  unfold mulS
  rw [h1.good, h2.good, if_neg (by simp), h1.zv_eq, h2.zv_eq, outZ_is hf]

theorem addS_out (h1 : VZ n1 l1 x) (h2 : VZ n2 l2 y) : addS n1 l1 n2 l2 = outZ (x + y) := by
  unfold addS
  rw [h1.good, h2.good, if_neg (by simp), h1.zv_eq, h2.zv_eq]

theorem subS_out (h1 : VZ n1 l1 x) (h2 : VZ n2 l2 y) : subS n1 l1 n2 l2 = outZ (x - y) := by
  unfold subS
  rw [h1.good, h2.good, if_neg (by simp), h1.zv_eq, h2.zv_eq]

theorem mulS_out (h1 : VZ n1 l1 x) (h2 : VZ n2 l2 y) : mulS n1 l1 n2 l2 = outZ (x * y) := by
  unfold mulS
  rw [h1.good, h2.good, if_neg (by simp), h1.zv_eq, h2.zv_eq]

theorem absS_z (h : VZ n l x) : absS n l = (wOf x.natAbs, 0) := by
  unfold absS
  rw [h.good, if_neg (by simp), outN_false, h.val_eq, outZ_is (fit_mono (b := x) (by simp) h.2)]

theorem negS_z (h : VZ n l x) : negS n l = (wOf (-x), 0) := by
  unfold negS
  have e : (if !n then -((val l : Nat) : Int) else ((val l : Nat) : Int)) = -x := by
    rw [← h.zv_eq]; unfold zv; cases n <;> simp
  rw [h.good, if_neg (by simp), outN_zv, e, outZ_is (by unfold fitZ; rw [Int.natAbs_neg]; exact h.2)]

theorem cmpW_z (h1 : VZ n1 l1 x) (h2 : VZ n2 l2 y) : cmpW n1 l1 n2 l2 = cmpZ x y := by
  rw [cmpW_good h1.canon.1 h2.canon.1 h1.good h2.good, h1.zv_eq, h2.zv_eq]

theorem cmpS_z (h1 : VZ n1 l1 x) (h2 : VZ n2 l2 y) : cmpS n1 l1 n2 l2 = (cmpZ x y, 0) := by
  unfold cmpS
  rw [h1.good, h2.good, if_neg (by simp), h1.zv_eq, h2.zv_eq]

theorem gcdS_z (h1 : VZ n1 l1 x) (h2 : VZ n2 l2 y) (hf : fitZ (Int.gcd x y)) : gcdS n1 l1 n2 l2 = (wOf (Int.gcd x y), 0) := by
  unfold gcdS
  rw [h1.good, h2.good, if_neg (by simp), outN_false, h1.val_eq, h2.val_eq]
  exact outZ_is hf

theorem fit_gcd (h1 : fitZ x) (h2 : fitZ y) : fitZ (Int.gcd x y) := by
  by_cases hx : x = 0
  · subst hx
    rw [Int.gcd_zero_left]
    exact fit_mono (by simp) h2
  · refine fit_mono (b := x) ?_ h1
    rw [Int.natAbs_natCast]
    exact Nat.le_of_dvd (by omega) (Int.gcd_dvd_natAbs_left x y)

theorem vz_gcd (h1 : VZ n1 l1 x) (h2 : VZ n2 l2 y) : gcdS n1 l1 n2 l2 = (wOf (Int.gcd x y), 0) := gcdS_z h1 h2 (fit_gcd h1.2 h2.2)

/-- The quotient, rounded down, and the remainder with the divisor's sign. -/
theorem div_uniq {q r : Int} (hy : y ≠ 0) (h : q * y + r = x) (hr : (0 < y → 0 ≤ r ∧ r < y) ∧ (y < 0 → r ≤ 0 ∧ y < r)) : q = x.fdiv y ∧ r = x.fmod y := by
  have h1 := Int.mul_fdiv_add_fmod x y
  have key : ∀ a : Int, a * y + r = x → ∀ b s : Int, b * y + s = x → (0 < y → 0 ≤ s ∧ s < y) ∧ (y < 0 → s ≤ 0 ∧ y < s) → a = b := by
    intro a ha b s hb hs
    have e : (a - b) * y = s - r := by rw [Int.sub_mul]; omega
    rcases Int.lt_trichotomy (a - b) 0 with h0 | h0 | h0
    · exfalso
      rcases Int.lt_or_gt_of_ne hy with hy0 | hy0
      · have := hr.2 hy0; have := hs.2 hy0
        have : (a - b) * y ≥ (-1) * y := Int.mul_le_mul_of_nonpos_right (by omega) (by omega)
        omega
      · have := hr.1 hy0; have := hs.1 hy0
        have : (a - b) * y ≤ (-1) * y := Int.mul_le_mul_of_nonneg_right (by omega) (by omega)
        omega
    · omega
    · exfalso
      rcases Int.lt_or_gt_of_ne hy with hy0 | hy0
      · have := hr.2 hy0; have := hs.2 hy0
        have : (a - b) * y ≤ 1 * y := Int.mul_le_mul_of_nonpos_right (by omega) (by omega)
        omega
      · have := hr.1 hy0; have := hs.1 hy0
        have : (a - b) * y ≥ 1 * y := Int.mul_le_mul_of_nonneg_right (by omega) (by omega)
        omega
  have hm : (0 < y → 0 ≤ x.fmod y ∧ x.fmod y < y) ∧ (y < 0 → x.fmod y ≤ 0 ∧ y < x.fmod y) := by
    constructor
    · intro h0
      exact ⟨Int.fmod_nonneg_of_pos x h0, Int.fmod_lt_of_pos x h0⟩
    · intro h0
      have e : (-x).fmod (-y) = -x.fmod y := Int.neg_fmod_neg x y
      have h2 := Int.fmod_nonneg_of_pos (-x) (show 0 < -y by omega)
      have h3 := Int.fmod_lt_of_pos (-x) (show 0 < -y by omega)
      omega
  have hq := key q h (x.fdiv y) (x.fmod y) (by rw [Int.mul_comm]; exact h1) hm
  exact ⟨hq, by rw [hq, Int.mul_comm] at h; omega⟩

theorem dmS_z (h1 : VZ n1 l1 x) (h2 : VZ n2 l2 y) (hy : y ≠ 0) : dmS n1 l1 n2 l2 = (wOf (x.fdiv y), wOf (x.fmod y), 0) := by
  have hl : 0 < l2.length := h2.pos.2 hy
  have hv : 0 < val l2 := canon_val_pos h2.canon hl
  obtain ⟨e1, e2⟩ := dm_law (n1 := n1) (n2 := n2) (l1 := l1) hv
  have e3 : 0 ≤ (drN n1 (val l1) n2 (val l2) : Int) := by omega
  unfold dmS
  rw [h1.good, h2.good, if_neg (by simp), if_neg (by omega)]
  have hva := h2.val_eq
  rw [h1.zv_eq, h2.zv_eq] at e1
  have hn := h2.neg_eq
  have hr : (0 < y → 0 ≤ drZ n1 (val l1) n2 (val l2) ∧ drZ n1 (val l1) n2 (val l2) < y) ∧ (y < 0 → drZ n1 (val l1) n2 (val l2) ≤ 0 ∧ y < drZ n1 (val l1) n2 (val l2)) := by
    unfold drZ
    constructor
    · intro h0
      have hf : ¬ (n2 = true) := by rw [hn, decide_eq_true_eq]; omega
      rw [if_neg hf]
      omega
    · intro h0
      have hf : n2 = true := by rw [hn, decide_eq_true_eq]; omega
      rw [if_pos hf]
      omega
  obtain ⟨a, b⟩ := div_uniq hy e1 hr
  rw [a, b]

theorem fit_fdiv (h : fitZ x) : fitZ (x.fdiv y) := by
  by_cases hy : y = 0
  · subst hy; rw [Int.fdiv_zero]; exact fit_mono (by simp) h
  · refine fit_mono (b := x) ?_ h
    have key : ∀ a b : Int, 0 < b → (a.fdiv b).natAbs ≤ a.natAbs := fun a b hb => by
      rw [Int.fdiv_eq_ediv_of_nonneg a (by omega)]
      exact Int.natAbs_ediv_le_natAbs a b
    rcases Int.lt_or_gt_of_ne hy with h0 | h0
    · have := key (-x) (-y) (by omega)
      rwa [Int.neg_fdiv_neg, Int.natAbs_neg] at this
    · exact key x y h0

theorem fmod_bd (hy : y ≠ 0) : (x.fmod y).natAbs < y.natAbs := by
  rcases Int.lt_or_gt_of_ne hy with h0 | h0
  · have e : (-x).fmod (-y) = -x.fmod y := Int.neg_fmod_neg x y
    have h2 := Int.fmod_nonneg_of_pos (-x) (show 0 < -y by omega)
    have h3 := Int.fmod_lt_of_pos (-x) (show 0 < -y by omega)
    omega
  · have h2 := Int.fmod_nonneg_of_pos x h0
    have h3 := Int.fmod_lt_of_pos x h0
    omega

theorem fmod_sign (hy : y ≠ 0) : x.fmod y = 0 ∨ (decide (x.fmod y < 0) = decide (y < 0)) := by
  rcases Int.lt_or_gt_of_ne hy with h0 | h0
  · have e : (-x).fmod (-y) = -x.fmod y := Int.neg_fmod_neg x y
    have h2 := Int.fmod_nonneg_of_pos (-x) (show 0 < -y by omega)
    by_cases h : x.fmod y = 0
    · exact .inl h
    · right; rw [decide_eq_true h0, decide_eq_true (by omega)]
  · have h2 := Int.fmod_nonneg_of_pos x h0
    right; rw [decide_eq_false (by omega), decide_eq_false (by omega)]

theorem fit_fmod (hy : y ≠ 0) (h : fitZ y) : fitZ (x.fmod y) := fit_mono (Nat.le_of_lt (fmod_bd hy)) h

end
end Go.Proofs.Ythlfidbhldbedaa
/- What the laws' own helpers answer. No program in sight. -/
namespace Go.Proofs.Ythlfidbhldbedaa
def longB (most : Nat) (n1 : Bool) (l1 : List Nat) (n2 : Bool) (l2 : List Nat) (n3 : Bool) (l3 : List Nat) : Bool :=
  badL n1 l1 || badL n2 l2 || badL n3 l3 || decide (most < l1.length) || decide (most < l2.length) || decide (most < l3.length)

theorem long_facts {most : Nat} {n1 n2 n3 : Bool} {l1 l2 l3 : List Nat} (h : longB most n1 l1 n2 l2 n3 l3 = false) :
    badL n1 l1 = false ∧ badL n2 l2 = false ∧ badL n3 l3 = false ∧ l1.length ≤ most ∧ l2.length ≤ most ∧ l3.length ≤ most := by
  unfold longB at h
  simp only [Bool.or_eq_false_iff, decide_eq_false_iff_not] at h
  obtain ⟨⟨⟨⟨⟨a, b⟩, c⟩, d⟩, e⟩, f⟩ := h
  exact ⟨a, b, c, by omega, by omega, by omega⟩

theorem lt_sum {a b k : Nat} (ha : a < 4294967296 ^ k) (hb : b < 4294967296 ^ k) : a + b < 4294967296 ^ (k + 1) := by
  rw [Nat.pow_succ]; omega

end Go.Proofs.Ythlfidbhldbedaa
/- What the law WideRoots needs of square roots, shifts and greatest common divisors. No program in sight. -/
namespace Go.Proofs.Ythlfidbhldbedaa
section
variable {n n1 n2 : Bool} {l l1 l2 : List Nat} {x y z : Int}
theorem mul_lt {a b i j : Nat} (ha : a < 4294967296 ^ i) (hb : b < 4294967296 ^ j) : a * b < 4294967296 ^ (i + j) := by
  rw [Nat.pow_add]
  exact Nat.mul_lt_mul'' ha hb

theorem isq_self_le (a : Nat) : isq a ≤ a := by
  have h := isq_le a
  rcases Nat.eq_zero_or_pos (isq a) with h0 | h0
  · omega
  · exact Nat.le_trans (Nat.le_mul_of_pos_left _ h0) h

theorem sqrtS_z {a : Nat} (h : VZ n l (a : Int)) : sqrtS n l = (wOf (isq a : Nat), 0) := by
  have hn : n = false := by rw [h.neg_eq, decide_eq_false_iff_not]; omega
  unfold sqrtS
  rw [h.good, if_neg (by simp), hn, if_neg (by simp), h.val_eq, Int.natAbs_natCast, outN_false, outZ_is (fit_mono (b := (a : Int)) ?_ h.2)]
  rw [Int.natAbs_natCast, Int.natAbs_natCast]
  exact isq_self_le a

theorem powS_z {k : Nat} (h : VZ n l x) (hk : k ≤ 1000) (hf : fitZ (x ^ k)) : powS n l (k : Int) = (wOf (x ^ k), 0) := by
  rw [powS_good h.good hk, h.zv_eq, outZ_is hf]

theorem shS_up_z {k : Nat} (h : VZ n l x) (hk : k ≤ 131072) (hf : fitZ (x * 2 ^ k)) : shS n l (k : Int) = (wOf (x * 2 ^ k), 0) := by
  rw [shS_up h.good hk, outN_zv]
  have e : (if n then -((val l * 2 ^ k : Nat) : Int) else ((val l * 2 ^ k : Nat) : Int)) = x * 2 ^ k := by
    rw [← h.zv_eq]
    unfold zv
    have e2 : ((val l * 2 ^ k : Nat) : Int) = (val l : Int) * 2 ^ k := by push_cast; rfl
    rw [e2]
    cases n
    · simp
    · simp [Int.neg_mul]
  rw [e, outZ_is hf]

theorem shS_down_z {k : Nat} (h : VZ n l x) (hk : k ≤ 131072) : shS n l (-(k : Int)) = (wOf (x.fdiv (2 ^ k)), 0) := by
  have hp : (0 : Int) < 2 ^ k := Int.pow_pos (by omega)
  rcases Nat.eq_zero_or_pos k with rfl | h0
  · have e : -((0 : Nat) : Int) = ((0 : Nat) : Int) := by simp
    rw [e, shS_up_z h (by omega) (by simpa using h.2)]
    simp
  · rw [shS_down h.good h0 hk, outN_zv]
    have hr1 : val l % 2 ^ k < 2 ^ k := Nat.mod_lt _ (Nat.two_pow_pos k)
    have hr2 := Nat.div_add_mod (val l) (2 ^ k)
    have hz := h.zv_eq
    have e2 : ((2 ^ k : Nat) : Int) = (2 : Int) ^ k := by push_cast; rfl
    have key : (if n then -((val l / 2 ^ k + (if n && decide (0 < val l % 2 ^ k) then 1 else 0) : Nat) : Int) else ((val l / 2 ^ k + (if n && decide (0 < val l % 2 ^ k) then 1 else 0) : Nat) : Int)) = x.fdiv (2 ^ k) := by
      rw [← e2]
      rw [← e2] at hp
      unfold zv at hz
      generalize hP : 2 ^ k = P at *
      generalize val l / P = q at *
      generalize val l % P = r at *
      cases n with
      | false =>
        simp only [Bool.false_and, Bool.false_eq_true, if_false, Nat.add_zero] at hz ⊢
        refine (div_uniq (r := (r : Int)) (by omega) ?_ ⟨fun _ => ⟨by omega, by omega⟩, fun h => by omega⟩).1
        rw [← hz, ← hr2]
        push_cast
        rw [Int.mul_comm]
      | true =>
        simp only [Bool.true_and, if_true] at hz ⊢
        by_cases hr0 : 0 < r
        · rw [decide_eq_true hr0, if_pos rfl]
          refine (div_uniq (r := (P : Int) - r) (by omega) ?_ ⟨fun _ => ⟨by omega, by omega⟩, fun h => by omega⟩).1
          rw [← hz, ← hr2]
          push_cast
          rw [Int.neg_mul, Int.add_mul, Int.mul_comm (q : Int)]
          omega
        · rw [decide_eq_false hr0, if_neg (by simp)]
          obtain rfl : r = 0 := by omega
          refine (div_uniq (r := (0 : Int)) (by omega) ?_ ⟨fun _ => ⟨by omega, by omega⟩, fun h => by omega⟩).1
          rw [← hz, ← hr2]
          push_cast
          simp [Int.mul_comm, Int.mul_neg]
    rw [key, outZ_is (fit_fdiv h.2)]

theorem gcd_add (x y : Int) : Int.gcd (x + y) y = Int.gcd x y := by
  simp

end
/-- All that the walk asks. -/
theorem roots_facts {na nb : Bool} {la lb : List Nat} {k : Nat} (h1 : Lim la) (h2 : Lim lb) (hlong : longB 60 na la nb lb nb lb = false) (hk : k ≤ 255) :
    ∃ (e r s m t p u d f c o : Bool × List Nat) (z1 : Int), absS na la = (e, 0) ∧ sqrtS e.1 e.2 = (r, 0) ∧ chk r.1 r.2 = 0 ∧ mulS r.1 r.2 r.1 r.2 = (s, 0) ∧ addS r.1 r.2 (wOf 1).1 (wOf 1).2 = (m, 0) ∧ mulS m.1 m.2 m.1 m.2 = (t, 0) ∧
      cmpW s.1 s.2 e.1 e.2 = z1 ∧ z1 ≤ 0 ∧ cmpW t.1 t.2 e.1 e.2 = 1 ∧ r.1 = false ∧ powS (wOf 2).1 (wOf 2).2 (k : Int) = (p, 0) ∧ shS na la (k : Int) = (u, 0) ∧ mulS na la p.1 p.2 = (u, 0) ∧ shS na la (-(k : Int)) = (d, 0) ∧ dmS na la p.1 p.2 = (d, f, 0) ∧
      gcdS na la nb lb = (c, 0) ∧ addS na la nb lb = (o, 0) ∧ gcdS o.1 o.2 nb lb = (c, 0) ∧ chk c.1 c.2 = 0 ∧
      ((c.2.length = 0 ∧ la.length = 0 ∧ lb.length = 0) ∨ (c.2.length ≠ 0 ∧ c.1 = false ∧ ∃ i j v j2 : Bool × List Nat, dmS na la c.1 c.2 = (i, j, 0) ∧ j.2.length = 0 ∧ dmS nb lb c.1 c.2 = (v, j2, 0) ∧ j2.2.length = 0)) := by
  obtain ⟨g1, g2, _, s1, s2, _⟩ := long_facts hlong
  have v1 := vz_of h1 g1
  have v2 := vz_of h2 g2
  generalize zv na la = x at *
  generalize zv nb lb = y at *
  obtain ⟨w, hw⟩ : ∃ w, w = 60 := ⟨_, rfl⟩
  have t1 := v1.lt_of (k := w) (by omega)
  have t2 := v2.lt_of (k := w) (by omega)
  have ve : VZ (wOf (x.natAbs : Int)).1 (wOf (x.natAbs : Int)).2 (x.natAbs : Int) := vz_wOf (fit_mono (b := x) (by simp) v1.2)
  have hsq := sqrtS_z ve
  have hr1 := isq_le x.natAbs
  have hr2 := isq_gt x.natAbs
  have hr3 := isq_self_le x.natAbs
  generalize hX : x.natAbs = X at *
  generalize isq X = r at *
  have hone : (1 : Nat) < 4294967296 ^ 1 := by decide
  have tr : r < 4294967296 ^ w := by omega
  have fr : fitZ (r : Int) := fit_of_lt (k := w) (by simpa using tr) (by omega)
  have vr : VZ (wOf (r : Int)).1 (wOf (r : Int)).2 (r : Int) := vz_wOf fr
  have tr1 : r + 1 < 4294967296 ^ (w + 1) := by
    rw [Nat.pow_succ]; omega
  have e1 : (r : Int) + 1 = ((r + 1 : Nat) : Int) := by push_cast; rfl
  have fm : fitZ ((r : Int) + 1) := fit_of_lt (k := w + 1) (by rw [e1, Int.natAbs_natCast]; exact tr1) (by omega)
  have vm := vz_wOf fm
  have v1' : VZ (wOf 1).1 (wOf 1).2 1 := vz_wOf fit_one
  have fs : fitZ ((r : Int) * r) := fit_of_lt (k := w + w) (by rw [Int.natAbs_mul, Int.natAbs_natCast]; exact mul_lt tr tr) (by omega)
  have ft : fitZ (((r : Int) + 1) * ((r : Int) + 1)) := fit_of_lt (k := w + 1 + (w + 1)) (by rw [Int.natAbs_mul, e1, Int.natAbs_natCast]; exact mul_lt tr1 tr1) (by omega)
  have f2 : fitZ (2 : Int) := fit_of_lt (k := 1) (by decide) (by omega)
  have v2' : VZ (wOf 2).1 (wOf 2).2 2 := vz_wOf f2
  have tp : 2 ^ k < 4294967296 ^ 8 := by
    have : 2 ^ k ≤ 2 ^ 255 := Nat.pow_le_pow_right (by omega) hk
    have h3 : (2 : Nat) ^ 255 < 4294967296 ^ 8 := by decide
    omega
  have e2 : (2 : Int) ^ k = ((2 ^ k : Nat) : Int) := by push_cast; rfl
  have fp : fitZ ((2 : Int) ^ k) := fit_of_lt (k := 8) (by rw [e2, Int.natAbs_natCast]; exact tp) (by omega)
  have vp := vz_wOf fp
  have fu : fitZ (x * 2 ^ k) := fit_of_lt (k := w + 8) (by rw [Int.natAbs_mul, e2, Int.natAbs_natCast, hX]; exact mul_lt t1 tp) (by omega)
  have hp0 : (2 : Int) ^ k ≠ 0 := by have := Nat.two_pow_pos k; omega
  have fo : fitZ (x + y) := fit_of_lt (k := w + 1) (by have := lt_sum t1 t2; omega) (by omega)
  have vo := vz_wOf fo
  have fc := fit_gcd v1.2 v2.2
  have vc := vz_wOf fc
  have hgo : gcdS (wOf (x + y)).1 (wOf (x + y)).2 nb lb = (wOf (Int.gcd x y), 0) := by
    have := vz_gcd vo v2
    rwa [gcd_add] at this
  refine ⟨wOf (X : Int), wOf (r : Int), wOf ((r : Int) * r), wOf ((r : Int) + 1), wOf (((r : Int) + 1) * ((r : Int) + 1)), wOf ((2 : Int) ^ k), wOf (x * 2 ^ k), wOf (x.fdiv (2 ^ k)), wOf (x.fmod (2 ^ k)), wOf (Int.gcd x y), wOf (x + y), cmpZ ((r : Int) * r) X,
    by have := absS_z v1; rwa [hX] at this, ?_, vr.chk, mulS_z vr vr fs, addS_z vr v1' fm, mulS_z vm vm ft, cmpW_z (vz_wOf fs) ve, ?_, ?_, ?_, powS_z v2' (by omega) fp, shS_up_z v1 (by omega) fu, mulS_z v1 vp fu, shS_down_z v1 (by omega), dmS_z v1 vp hp0, vz_gcd v1 v2, addS_z v1 v2 fo, hgo, vc.chk, ?_⟩
  · exact hsq
  · have : (r : Int) * r ≤ (X : Int) := by exact_mod_cast hr1
    unfold cmpZ
    split
    · decide
    · rw [if_neg (by omega)]; decide
  · rw [cmpW_z (vz_wOf ft) ve]
    have : (X : Int) < ((r : Int) + 1) * ((r : Int) + 1) := by exact_mod_cast hr2
    unfold cmpZ
    rw [if_neg (by omega), if_pos this]
  · show decide ((r : Int) < 0) = false
    rw [decide_eq_false_iff_not]; omega
  · by_cases hg : Int.gcd x y = 0
    · left
      obtain ⟨rfl, rfl⟩ := Int.gcd_eq_zero_iff.1 hg
      exact ⟨vc.zero.2 (by simp), v1.zero.2 rfl, v2.zero.2 rfl⟩
    · right
      have hgz : ((Int.gcd x y : Nat) : Int) ≠ 0 := by omega
      have d1 : ((Int.gcd x y : Nat) : Int) ∣ x := Int.gcd_dvd_left ..
      have d2 : ((Int.gcd x y : Nat) : Int) ∣ y := Int.gcd_dvd_right ..
      refine ⟨fun h => hgz (vc.zero.1 h), (by show decide (((Int.gcd x y : Nat) : Int) < 0) = false; rw [decide_eq_false_iff_not]; omega), _, _, _, _, dmS_z v1 vc hgz, ?_, dmS_z v2 vc hgz, ?_⟩
      · rw [Int.fmod_eq_zero_of_dvd d1]; rfl
      · rw [Int.fmod_eq_zero_of_dvd d2]; rfl

end Go.Proofs.Ythlfidbhldbedaa

import Derived.Test.YtlekjkljajeodaaFMath
/- Fractions as rational numbers: the canonical form of one; sums, differences and products of those of few limbs. No program in sight. -/
namespace Go.Proofs.Ytlekjkljajeodaa
/-- The valid form of a rational number. -/
def frQ (q : Rat) : (Bool × List Nat) × (Bool × List Nat) := (wOf q.num, wOf q.den)

/-- Its numbers have at most k limbs. -/
def Few (k : Nat) (q : Rat) : Prop := q.num.natAbs < 4294967296 ^ k ∧ ((q.den : Nat) : Int).natAbs < 4294967296 ^ k

section
variable {k j : Nat} {p q : Rat} {a b : Int}
theorem den_pos' (q : Rat) : (0 : Int) < q.den := by have := q.den_pos; omega

theorem Few.up (h : Few k q) (hk : k ≤ j) : Few j q := ⟨lt_up h.1 hk, lt_up h.2 hk⟩

theorem few_vf (h : Few k q) (hk : k ≤ 4096) : VFk k (frQ q).1.1 (frQ q).1.2 (frQ q).2.1 (frQ q).2.2 q.num q.den :=
  ⟨⟨vz_wOf (fit_of_lt h.1 hk), vz_wOf (fit_of_lt h.2 hk), den_pos' q, by
    have := q.reduced
    unfold Nat.Coprime at this
    simpa [Int.gcd] using this⟩, h.1, h.2⟩

theorem div_parts (hb : b ≠ 0) : redZ a b = frQ (Rat.divInt a b) ∧ (Rat.divInt a b).num.natAbs ≤ a.natAbs ∧ (((Rat.divInt a b).den : Nat) : Int).natAbs ≤ b.natAbs := by
  obtain ⟨x, y, h1, h2, h3, h4, h5⟩ := red_parts (x := a) hb
  have hg := sg_ne (x := a) hb
  have e := Rat.num_divInt_den (Rat.divInt a b)
  have hd := den_pos' (Rat.divInt a b)
  have eq2 : (Rat.divInt a b).num * b = a * ((Rat.divInt a b).den : Int) := (Rat.divInt_eq_divInt_iff (by omega) hb).1 e
  have hr := (Rat.divInt a b).reduced
  unfold Nat.Coprime at hr
  rw [h3]
  generalize Rat.divInt a b = q at *
  generalize sgZ a b = g at *
  have hq : q.num * b = a * q.den := eq2
  subst h1 h2
  have hxy : q.num * y = x * q.den := by
    have : g * (q.num * y) = g * (x * q.den) := by grind
    exact Int.eq_of_mul_eq_mul_left hg this
  obtain ⟨e1, e2⟩ := frac_uniq hd h4 (by simpa [Int.gcd] using hr) h5 hxy
  subst e1
  refine ⟨by rw [← e2]; rfl, ?_, ?_⟩
  · rw [Int.natAbs_mul]; exact Nat.le_mul_of_pos_left _ (by omega)
  · rw [e2, Int.natAbs_mul]; exact Nat.le_mul_of_pos_left _ (by omega)

theorem few_div (hb : b ≠ 0) (h1 : a.natAbs < 4294967296 ^ k) (h2 : b.natAbs < 4294967296 ^ k) : Few k (Rat.divInt a b) :=
  ⟨Nat.lt_of_le_of_lt (div_parts hb).2.1 h1, Nat.lt_of_le_of_lt (div_parts (a := a) hb).2.2 h2⟩

theorem red_q (hb : b ≠ 0) : redZ a b = frQ (Rat.divInt a b) := (div_parts hb).1

theorem of_q (hb : b ≠ 0) : ofS a b = (frQ (Rat.divInt a b), 0) := by unfold ofS; rw [if_neg hb, red_q hb]

theorem few_int {n : Int} (h : n.natAbs < 4294967296 ^ k) (hk : 0 < k) : Few k (n : Rat) := ⟨by simpa using h, by
  have : 1 < 4294967296 ^ k := Nat.one_lt_pow (by omega) (by decide)
  simpa using this⟩

theorem few_two {n : Int} (h1 : -9223372036854775808 ≤ n) (h2 : n ≤ 9223372036854775807) : Few 2 (n : Rat) := few_int (by omega) (by omega)

theorem q_add (hp : Few k p) (hq : Few j q) (hk : k + j + 1 ≤ 4096) : bothF (frQ p).1.1 (frQ p).1.2 (frQ p).2.1 (frQ p).2.2 (frQ q).1.1 (frQ q).1.2 (frQ q).2.1 (frQ q).2.2 addV = (frQ (p + q), 0) ∧ Few (k + j + 1) (p + q) := by
  have v1 := few_vf hp (by omega)
  have v2 := few_vf hq (by omega)
  have d1 := den_pos' p
  have d2 := den_pos' q
  have e : p + q = Rat.divInt (p.num * q.den + q.num * p.den) (p.den * q.den) := by
    rw [← Rat.divInt_add_divInt _ _ (by omega) (by omega), Rat.num_divInt_den, Rat.num_divInt_den]
  have hne : ((p.den : Int) * q.den) ≠ 0 := Int.mul_ne_zero (by omega) (by omega)
  refine ⟨?_, ?_⟩
  · rw [both_good v1.vf v2.vf, add_good v1 v2 hk, red_q hne, e]
  · rw [e]
    refine few_div hne (add_few (mul_few hp.1 hq.2) ?_) (lt_up (mul_few hp.2 hq.2) (by omega))
    have := mul_few hq.1 hp.2
    rwa [Nat.add_comm] at this

theorem q_sub (hp : Few k p) (hq : Few j q) (hk : k + j + 1 ≤ 4096) : bothF (frQ p).1.1 (frQ p).1.2 (frQ p).2.1 (frQ p).2.2 (frQ q).1.1 (frQ q).1.2 (frQ q).2.1 (frQ q).2.2 subV = (frQ (p - q), 0) ∧ Few (k + j + 1) (p - q) := by
  have v1 := few_vf hp (by omega)
  have v2 := few_vf hq (by omega)
  have d1 := den_pos' p
  have d2 := den_pos' q
  have e : p - q = Rat.divInt (p.num * q.den - q.num * p.den) (p.den * q.den) := by
    rw [← Rat.divInt_sub_divInt _ _ (by omega) (by omega), Rat.num_divInt_den, Rat.num_divInt_den]
  have hne : ((p.den : Int) * q.den) ≠ 0 := Int.mul_ne_zero (by omega) (by omega)
  refine ⟨?_, ?_⟩
  · rw [both_good v1.vf v2.vf, sub_good v1 v2 hk, red_q hne, e]
  · rw [e]
    refine few_div hne (sub_few (mul_few hp.1 hq.2) ?_) (lt_up (mul_few hp.2 hq.2) (by omega))
    have := mul_few hq.1 hp.2
    rwa [Nat.add_comm] at this

theorem q_mul (hp : Few k p) (hq : Few j q) (hk : k + j ≤ 4096) : bothF (frQ p).1.1 (frQ p).1.2 (frQ p).2.1 (frQ p).2.2 (frQ q).1.1 (frQ q).1.2 (frQ q).2.1 (frQ q).2.2 mulV = (frQ (p * q), 0) ∧ Few (k + j) (p * q) := by
  have v1 := few_vf hp (by omega)
  have v2 := few_vf hq (by omega)
  have d1 := den_pos' p
  have d2 := den_pos' q
  have e : p * q = Rat.divInt (p.num * q.num) (p.den * q.den) := by
    rw [← Rat.divInt_mul_divInt, Rat.num_divInt_den, Rat.num_divInt_den]
  have hne : ((p.den : Int) * q.den) ≠ 0 := Int.mul_ne_zero (by omega) (by omega)
  refine ⟨?_, ?_⟩
  · rw [both_good v1.vf v2.vf, mul_good v1 v2 hk, red_q hne, e]
  · rw [e]
    exact few_div hne (mul_few hp.1 hq.1) (mul_few hp.2 hq.2)

end
end Go.Proofs.Ytlekjkljajeodaa

/- Chebyshev sums, in rational numbers: from the last coefficient on, and from the first. No program in sight. -/
namespace Go.Proofs.Ytlekjkljajeodaa
/-- A coefficient. -/
def cfQ (l : List Int) (k : Nat) : Rat := ((l.getD k 0 : Int) : Rat)

/-- Polynomials of the first kind: value and derivative; of the second kind. -/
def chT (x : Rat) : Nat → Rat
  | 0 => 1
  | 1 => x
  | k + 2 => 2 * (x * chT x (k + 1)) + (-1) * chT x k

def chD (x : Rat) : Nat → Rat
  | 0 => 0
  | 1 => 1
  | k + 2 => 2 * (chT x (k + 1) + x * chD x (k + 1)) + (-1) * chD x k

def chU (x : Rat) : Nat → Rat
  | 0 => 1
  | 1 => x + x
  | k + 2 => (x + x) * chU x (k + 1) - chU x k

/-- The sum of the first n terms. -/
def chS (c : Nat → Rat) (P : Nat → Rat) : Nat → Rat
  | 0 => 0
  | n + 1 => chS c P n + c n * P n

/-- The two numbers after j steps from the last coefficient of n on. -/
def clen (c : Nat → Rat) (y : Rat) (n : Nat) : Nat → Rat × Rat
  | 0 => (0, 0)
  | j + 1 => (c (n - 1 - j) + y * (clen c y n j).1 - (clen c y n j).2, (clen c y n j).1)

theorem clen_inv {c P : Nat → Rat} {y : Rat} (hP : ∀ k, P (k + 2) = y * P (k + 1) - P k) (n : Nat) : ∀ j, j + 1 ≤ n → chS c P n = chS c P (n - j) + (clen c y n j).1 * P (n - j) - (clen c y n j).2 * P (n - j - 1)
  | 0, _ => by simp [clen]; grind
  | j + 1, h => by
    have ih := clen_inv (c := c) hP n j (by omega)
    obtain ⟨m, hm⟩ : ∃ m, n = m + j + 2 := ⟨n - j - 2, by omega⟩
    subst hm
    have e1 : m + j + 2 - j = m + 2 := by omega
    have e3 : m + j + 2 - (j + 1) = m + 1 := by omega
    have e5 : m + j + 2 - 1 - j = m + 1 := by omega
    rw [ih, e1, e3]
    simp only [clen, e5, chS, hP, Nat.add_sub_cancel]
    grind

theorem chT_step (x : Rat) (k : Nat) : chT x (k + 2) = (x + x) * chT x (k + 1) - chT x k := by
  simp only [chT]; grind

theorem value_eq (c : Nat → Rat) (x : Rat) {n : Nat} (hn : 0 < n) : c 0 + x * (clen c (x + x) n (n - 1)).1 - (clen c (x + x) n (n - 1)).2 = chS c (chT x) n := by
  rw [clen_inv (chT_step x) n (n - 1) (by omega), show n - (n - 1) = 1 by omega, show 1 - 1 = 0 from rfl]
  simp only [chS, chT]
  grind

theorem chU_T (x : Rat) : ∀ k, chT x (k + 1) = chU x (k + 1) - x * chU x k
  | 0 => by simp only [chT, chU]; grind
  | 1 => by simp only [chT, chU]; grind
  | k + 2 => by
    have h1 := chU_T x k
    have h2 := chU_T x (k + 1)
    rw [chT_step x (k + 1), h1, h2]
    simp only [chU]
    grind

theorem chD_U (x : Rat) : ∀ k, chD x (k + 1) = ((k + 1 : Nat) : Rat) * chU x k
  | 0 => by simp [chD, chU]
  | 1 => by simp only [chD, chU, chT]; grind
  | k + 2 => by
    have h1 := chD_U x k
    have h2 := chD_U x (k + 1)
    have h3 := chU_T x (k + 1)
    have e : chD x (k + 2 + 1) = 2 * (chT x (k + 2) + x * chD x (k + 2)) + (-1) * chD x (k + 1) := rfl
    rw [e, h1, show chD x (k + 2) = _ from h2, show chT x (k + 2) = _ from h3]
    simp only [chU]
    push_cast
    grind

theorem chS_shift (a P : Nat → Rat) : ∀ n, chS (fun k => a (k + 1)) (fun k => P (k + 1)) n + a 0 * P 0 = chS a P (n + 1)
  | 0 => by simp [chS]
  | n + 1 => by
    have ih := chS_shift a P n
    simp only [chS] at *
    grind

theorem slope_eq (c : Nat → Rat) (x : Rat) {n : Nat} (hn : 1 < n) :
    c 1 + (x + x) * (clen (fun k => ((k + 1 : Nat) : Rat) * c (k + 1)) (x + x) (n - 1) (n - 2)).1 - (clen (fun k => ((k + 1 : Nat) : Rat) * c (k + 1)) (x + x) (n - 1) (n - 2)).2 = chS c (chD x) n := by
  have hU : ∀ k, chU x (k + 2) = (x + x) * chU x (k + 1) - chU x k := fun k => rfl
  have h := clen_inv (c := fun k => ((k + 1 : Nat) : Rat) * c (k + 1)) hU (n - 1) (n - 2) (by omega)
  rw [show n - 1 - (n - 2) = 1 by omega] at h
  have h2 := chS_shift c (chD x) (n - 1)
  have h3 : ∀ m, chS (fun k => c (k + 1)) (fun k => chD x (k + 1)) m = chS (fun k => ((k + 1 : Nat) : Rat) * c (k + 1)) (chU x) m := fun m => by
    induction m with
    | zero => rfl
    | succ m ih =>
      have e := chD_U x m
      simp only [chS]
      rw [ih, e]
      clear h h2 hU ih e
      grind
  rw [h3, show n - 1 + 1 = n by omega] at h2
  rw [← h2, h, show 1 - 1 = 0 from rfl]
  clear h h2 h3 hU
  simp only [chS, chU, chD]
  grind

end Go.Proofs.Ytlekjkljajeodaa

/- Bounds of Chebyshev sums between -1 and 1, and how much they change. No program in sight. -/
namespace Go.Proofs.Ytlekjkljajeodaa
section
variable {x y : Rat} (h1 : -1 ≤ x) (h2 : x ≤ 1)
include h1 h2
end
section
variable {x y : Rat} (h1 : -1 ≤ x) (h2 : x ≤ 1) (h3 : -1 ≤ y) (h4 : y ≤ 1)
include h1 h2 h3 h4
end
/-- Signs that alternate. -/
def altS (k : Nat) : Rat := if k % 2 = 0 then 1 else -1

theorem altS_succ (k : Nat) : altS (k + 1) = -altS k := by
  unfold altS
  rcases Nat.mod_two_eq_zero_or_one k with h | h
  · rw [if_neg (by omega), if_pos h]
  · rw [if_pos (by omega), if_neg (by omega)]; grind

theorem chT_neg (x : Rat) : ∀ k, chT (-x) k = altS k * chT x k
  | 0 => by simp [chT, altS]
  | 1 => by simp [chT, altS]; grind
  | k + 2 => by
    have h1 := chT_neg x k
    have h2 := chT_neg x (k + 1)
    rw [altS_succ, altS_succ]
    rw [altS_succ] at h2
    simp only [chT]
    rw [h1, h2]
    grind

theorem chT_one : ∀ k, chT 1 k = 1
  | 0 => rfl
  | 1 => rfl
  | k + 2 => by
    have h1 := chT_one k
    have h2 := chT_one (k + 1)
    simp only [chT]
    rw [h1, h2]
    grind

theorem chT_minus (k : Nat) : chT (-1) k = altS k := by rw [chT_neg, chT_one]; grind

end Go.Proofs.Ytlekjkljajeodaa

/- What Parse makes of Decimal is at most half a unit away. No program in sight. -/
namespace Go.Proofs.Ytlekjkljajeodaa
open Go.RowKit
theorem Cf.newF {W : World} {g : Nat} {n1 n2 : Bool} {A1 A2 : Option Addr} {m1 c1 m2 c2 : Nat} (k : Cf W g n1 A1 m1 c1 n2 A2 m2 c2) {p1 p2 : Bool} {B1 B2 : Option Addr} {q1 d1 q2 d2 : Nat} :
    Cf ((((W.setCell ⟨g, 0, none⟩ (.bool p1)).setCell ⟨g, 1, none⟩ (.slice B1 q1 d1)).setCell ⟨g, 2, none⟩ (.bool p2)).setCell ⟨g, 3, none⟩ (.slice B2 q2 d2)) g p1 B1 q1 d1 p2 B2 q2 d2 := by
  obtain ⟨h0, h1, h2, h3⟩ := k
  have ne : ∀ i j : Nat, i ≠ j → (⟨g, i, none⟩ : Addr) ≠ ⟨g, j, none⟩ := fun i j hij e => hij (by injection e)
  have s0 := World.cell?_setCell_same W ⟨g, 0, none⟩ (.bool p1) h0
  have s1 := World.cell?_setCell_same (W.setCell ⟨g, 0, none⟩ (.bool p1)) ⟨g, 1, none⟩ (.slice B1 q1 d1) ((World.cell?_setCell_other _ _ _ _ (ne 0 1 (by decide))).trans h1)
  have s2 := World.cell?_setCell_same ((W.setCell ⟨g, 0, none⟩ (.bool p1)).setCell ⟨g, 1, none⟩ (.slice B1 q1 d1)) ⟨g, 2, none⟩ (.bool p2) (((World.cell?_setCell_other _ _ _ _ (ne 1 2 (by decide))).trans (World.cell?_setCell_other _ _ _ _ (ne 0 2 (by decide)))).trans h2)
  have s3 := World.cell?_setCell_same (((W.setCell ⟨g, 0, none⟩ (.bool p1)).setCell ⟨g, 1, none⟩ (.slice B1 q1 d1)).setCell ⟨g, 2, none⟩ (.bool p2)) ⟨g, 3, none⟩ (.slice B2 q2 d2) ((((World.cell?_setCell_other _ _ _ _ (ne 2 3 (by decide))).trans (World.cell?_setCell_other _ _ _ _ (ne 1 3 (by decide)))).trans (World.cell?_setCell_other _ _ _ _ (ne 0 3 (by decide)))).trans h3)
  refine ⟨?_, ?_, ?_, s3⟩
  · rw [World.cell?_setCell_other _ _ _ _ (ne 3 0 (by decide)), World.cell?_setCell_other _ _ _ _ (ne 2 0 (by decide)), World.cell?_setCell_other _ _ _ _ (ne 1 0 (by decide))]; exact s0
  · rw [World.cell?_setCell_other _ _ _ _ (ne 3 1 (by decide)), World.cell?_setCell_other _ _ _ _ (ne 2 1 (by decide))]; exact s1
  · rw [World.cell?_setCell_other _ _ _ _ (ne 3 2 (by decide))]; exact s2

theorem Cf.farF {W : World} {g g' : Nat} {n1 n2 : Bool} {A1 A2 : Option Addr} {m1 c1 m2 c2 : Nat} (k : Cf W g n1 A1 m1 c1 n2 A2 m2 c2) (hne : g ≠ g') (x y z u : Value) :
    Cf ((((W.setCell ⟨g', 0, none⟩ x).setCell ⟨g', 1, none⟩ y).setCell ⟨g', 2, none⟩ z).setCell ⟨g', 3, none⟩ u) g n1 A1 m1 c1 n2 A2 m2 c2 := by
  have f : ∀ (i j : Nat) (V : World) (v : Value), (V.setCell ⟨g', j, none⟩ v).cell? ⟨g, i, none⟩ = V.cell? ⟨g, i, none⟩ := fun i j V v => World.cell?_setCell_other _ _ _ _ (fun e => hne (congrArg Addr.block e).symm)
  obtain ⟨h0, h1, h2, h3⟩ := k
  exact ⟨by rw [f, f, f, f]; exact h0, by rw [f, f, f, f]; exact h1, by rw [f, f, f, f]; exact h2, by rw [f, f, f, f]; exact h3⟩

theorem Ff.putF {W : World} {g h : Nat} (f : Ff W h) (x y z u : Value) : Ff ((((W.setCell ⟨g, 0, none⟩ x).setCell ⟨g, 1, none⟩ y).setCell ⟨g, 2, none⟩ z).setCell ⟨g, 3, none⟩ u) h := by
  obtain ⟨a, b, c, d⟩ := f
  exact ⟨by simpa using a, by simpa using b, by simpa using c, by simpa using d⟩

theorem Cw.farF {W : World} {g g' : Nat} {n : Bool} {A : Option Addr} {m c : Nat} (k : Cw W g n A m c) (hne : g ≠ g') (x y z u : Value) :
    Cw ((((W.setCell ⟨g', 0, none⟩ x).setCell ⟨g', 1, none⟩ y).setCell ⟨g', 2, none⟩ z).setCell ⟨g', 3, none⟩ u) g n A m c := by
  have f : ∀ (i j : Nat) (V : World) (v : Value), (V.setCell ⟨g', j, none⟩ v).cell? ⟨g, i, none⟩ = V.cell? ⟨g, i, none⟩ := fun i j V v => World.cell?_setCell_other _ _ _ _ (fun e => hne (congrArg Addr.block e).symm)
  obtain ⟨h0, h1⟩ := k
  exact ⟨by rw [f, f, f, f]; exact h0, by rw [f, f, f, f]; exact h1⟩

/-- The sign of the numerator is written. -/
theorem Cf.neg {W : World} {g : Nat} {n1 n2 : Bool} {A1 A2 : Option Addr} {m1 c1 m2 c2 : Nat} (k : Cf W g n1 A1 m1 c1 n2 A2 m2 c2) (p : Bool) :
    Cf (W.setCell ⟨g, 0, none⟩ (.bool p)) g p A1 m1 c1 n2 A2 m2 c2 := by
  obtain ⟨h0, h1, h2, h3⟩ := k
  have f : ∀ i : Nat, 0 ≠ i → (W.setCell ⟨g, 0, none⟩ (.bool p)).cell? ⟨g, i, none⟩ = W.cell? ⟨g, i, none⟩ := fun i hi => World.cell?_setCell_other _ _ _ _ (fun e => hi (by injection e))
  exact ⟨World.cell?_setCell_same W ⟨g, 0, none⟩ (.bool p) h0, (f 1 (by decide)).trans h1, (f 2 (by decide)).trans h2, (f 3 (by decide)).trans h3⟩

theorem Cf.far1 {W : World} {g g' : Nat} {n1 n2 : Bool} {A1 A2 : Option Addr} {m1 c1 m2 c2 : Nat} (k : Cf W g n1 A1 m1 c1 n2 A2 m2 c2) (hne : g ≠ g') (x : Value) :
    Cf (W.setCell ⟨g', 0, none⟩ x) g n1 A1 m1 c1 n2 A2 m2 c2 := by
  have f : ∀ i : Nat, (W.setCell ⟨g', 0, none⟩ x).cell? ⟨g, i, none⟩ = W.cell? ⟨g, i, none⟩ := fun i => World.cell?_setCell_other _ _ _ _ (fun e => hne (congrArg Addr.block e).symm)
  obtain ⟨h0, h1, h2, h3⟩ := k
  exact ⟨(f 0).trans h0, (f 1).trans h1, (f 2).trans h2, (f 3).trans h3⟩

theorem Sl.setC {w : World} {A : Option Addr} {l : List Nat} {c g : Nat} {n : Bool} {A2 : Option Addr} {n2 c2 : Nat} (h : Sl w A l c) (q : Cw w g n A2 n2 c2) (x y : Value) : Sl ((w.setCell ⟨g, 0, none⟩ x).setCell ⟨g, 1, none⟩ y) A l c := h.setW q.1 q.2 x y

section
variable {W : World} {g g' : Nat} {v0 v1 v2 v3 : Value}
theorem far_cell (hne : g ≠ g') (i j : Nat) (V : World) (v : Value) : (V.setCell ⟨g', j, none⟩ v).cell? ⟨g, i, none⟩ = V.cell? ⟨g, i, none⟩ := World.cell?_setCell_other _ _ _ _ (fun e => hne (congrArg Addr.block e).symm)

end
end Go.Proofs.Ytlekjkljajeodaa

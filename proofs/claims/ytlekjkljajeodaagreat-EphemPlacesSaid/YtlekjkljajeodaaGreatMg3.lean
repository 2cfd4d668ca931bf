import Derived.Test.YtlekjkljajeodaaGreatFMath
namespace Go.Proofs.YtlekjkljajeodaaGreat
def frQ (q : Rat) : (Bool × List Nat) × (Bool × List Nat) := (wOf q.num, wOf q.den)
def Few (k : Nat) (q : Rat) : Prop := q.num.natAbs < 4294967296 ^ k ∧ ((q.den : Nat) : Int).natAbs < 4294967296 ^ k
section
variable {k j : Nat} {p q : Rat} {a b : Int}
theorem q1j (q : Rat) : (0 : Int) < q.den := by have := q.den_pos; omega
theorem Few.up (h : Few k q) (hk : k ≤ j) : Few j q := ⟨lt_up h.1 hk, lt_up h.2 hk⟩
theorem few_vf (h : Few k q) (hk : k ≤ 4096) : VFk k (frQ q).1.1 (frQ q).1.2 (frQ q).2.1 (frQ q).2.2 q.num q.den :=
 ⟨⟨q1o (fit_of_lt h.1 hk), q1o (fit_of_lt h.2 hk), q1j q, by
  have := q.reduced;unfold Nat.Coprime at this;simpa [Int.gcd] using this⟩, h.1, h.2⟩
theorem div_parts (hb : b ≠ 0) : redZ a b = frQ (Rat.divInt a b) ∧ (Rat.divInt a b).num.natAbs ≤ a.natAbs ∧ (((Rat.divInt a b).den : Nat) : Int).natAbs ≤ b.natAbs := by
 obtain ⟨x, y, h1, h2, h3, h4, h5⟩ := red_parts (x := a) hb;have hg := sg_ne (x := a) hb;have e := Rat.num_divInt_den (Rat.divInt a b);have hd := q1j (Rat.divInt a b);have eq2 : (Rat.divInt a b).num * b = a * ((Rat.divInt a b).den : Int) := (Rat.divInt_eq_divInt_iff (by omega) hb).1 e;have hr := (Rat.divInt a b).reduced;unfold Nat.Coprime at hr;rw [h3];generalize Rat.divInt a b = q at *;generalize sgZ a b = g at *;have hq : q.num * b = a * q.den := eq2;subst h1 h2
 have hxy : q.num * y = x * q.den := by
  have : g * (q.num * y) = g * (x * q.den) := (by grind);exact Int.eq_of_mul_eq_mul_left hg this
 obtain ⟨e1, e2⟩ := frac_uniq hd h4 (by simpa [Int.gcd] using hr) h5 hxy;subst e1;refine ⟨by rw [← e2]; rfl, ?_, ?_⟩
 ·rw [Int.natAbs_mul]; exact Nat.le_mul_of_pos_left _ (by omega)
 ·rw [e2, Int.natAbs_mul]; exact Nat.le_mul_of_pos_left _ (by omega)
theorem few_div (hb : b ≠ 0) (h1 : a.natAbs < 4294967296 ^ k) (h2 : b.natAbs < 4294967296 ^ k) : Few k (Rat.divInt a b) :=
 ⟨Nat.lt_of_le_of_lt (div_parts hb).2.1 h1, Nat.lt_of_le_of_lt (div_parts (a := a) hb).2.2 h2⟩
theorem red_q (hb : b ≠ 0) : redZ a b = frQ (Rat.divInt a b) := (div_parts hb).1
theorem of_q (hb : b ≠ 0) : ofS a b = (frQ (Rat.divInt a b), 0) := by unfold ofS; rw [if_neg hb, red_q hb]
theorem frQ_int (n : Int) : frQ (n : Rat) = (wOf n, wOf 1) := by unfold frQ; simp
theorem few_int {n : Int} (h : n.natAbs < 4294967296 ^ k) (hk : 0 < k) : Few k (n : Rat) := ⟨by simpa using h, by
 have : 1 < 4294967296 ^ k := Nat.one_lt_pow (by omega) (by decide);simpa using this⟩
theorem few_two {n : Int} (h1 : -9223372036854775808 ≤ n) (h2 : n ≤ 9223372036854775807) : Few 2 (n : Rat) := few_int (by omega) (by omega)
theorem q_add (hp : Few k p) (hq : Few j q) (hk : k + j + 1 ≤ 4096) : q1p (frQ p).1.1 (frQ p).1.2 (frQ p).2.1 (frQ p).2.2 (frQ q).1.1 (frQ q).1.2 (frQ q).2.1 (frQ q).2.2 addV = (frQ (p + q), 0) ∧ Few (k + j + 1) (p + q) := by
 have v1 := few_vf hp (by omega);have v2 := few_vf hq (by omega);have d1 := q1j p;have d2 := q1j q
 have e : p + q = Rat.divInt (p.num * q.den + q.num * p.den) (p.den * q.den) := by
  rw [← Rat.divInt_add_divInt _ _ (by omega) (by omega), Rat.num_divInt_den, Rat.num_divInt_den]
 have hne : ((p.den : Int) * q.den) ≠ 0 := Int.mul_ne_zero (by omega) (by omega);refine ⟨?_, ?_⟩
 ·rw [both_good v1.vf v2.vf, add_good v1 v2 hk, red_q hne, e]
 ·rw [e];refine few_div hne (add_few (q2f hp.1 hq.2) ?_) (lt_up (q2f hp.2 hq.2) (by omega));have := q2f hq.1 hp.2;rwa [Nat.add_comm] at this
theorem q_sub (hp : Few k p) (hq : Few j q) (hk : k + j + 1 ≤ 4096) : q1p (frQ p).1.1 (frQ p).1.2 (frQ p).2.1 (frQ p).2.2 (frQ q).1.1 (frQ q).1.2 (frQ q).2.1 (frQ q).2.2 subV = (frQ (p - q), 0) ∧ Few (k + j + 1) (p - q) := by
 have v1 := few_vf hp (by omega);have v2 := few_vf hq (by omega);have d1 := q1j p;have d2 := q1j q
 have e : p - q = Rat.divInt (p.num * q.den - q.num * p.den) (p.den * q.den) := by
  rw [← Rat.divInt_sub_divInt _ _ (by omega) (by omega), Rat.num_divInt_den, Rat.num_divInt_den]
 have hne : ((p.den : Int) * q.den) ≠ 0 := Int.mul_ne_zero (by omega) (by omega);refine ⟨?_, ?_⟩
 ·rw [both_good v1.vf v2.vf, sub_good v1 v2 hk, red_q hne, e]
 ·rw [e];refine few_div hne (sub_few (q2f hp.1 hq.2) ?_) (lt_up (q2f hp.2 hq.2) (by omega));have := q2f hq.1 hp.2;rwa [Nat.add_comm] at this
theorem q2r (hp : Few k p) (hq : Few j q) (hk : k + j ≤ 4096) : q1p (frQ p).1.1 (frQ p).1.2 (frQ p).2.1 (frQ p).2.2 (frQ q).1.1 (frQ q).1.2 (frQ q).2.1 (frQ q).2.2 mulV = (frQ (p * q), 0) ∧ Few (k + j) (p * q) := by
 have v1 := few_vf hp (by omega);have v2 := few_vf hq (by omega);have d1 := q1j p;have d2 := q1j q
 have e : p * q = Rat.divInt (p.num * q.num) (p.den * q.den) := by
  rw [← Rat.divInt_mul_divInt, Rat.num_divInt_den, Rat.num_divInt_den]
 have hne : ((p.den : Int) * q.den) ≠ 0 := Int.mul_ne_zero (by omega) (by omega);refine ⟨?_, ?_⟩
 ·rw [both_good v1.vf v2.vf, mul_good v1 v2 hk, red_q hne, e]
 ·rw [e];exact few_div hne (q2f hp.1 hq.1) (q2f hp.2 hq.2)
end
end Go.Proofs.YtlekjkljajeodaaGreat
namespace Go.Proofs.YtlekjkljajeodaaGreat
def cfQ (l : List Int) (k : Nat) : Rat := ((l.getD k 0 : Int) : Rat)
def chT (x : Rat) : Nat → Rat
 | 0 => 1
 | 1 => x
 | k + 2 => 2 * (x * chT x (k + 1)) + (-1) * chT x k
def chD (x : Rat) : Nat → Rat
 | 0 => 0
 | 1 => 1
 | k + 2 => 2 * (chT x (k + 1) + x * chD x (k + 1)) + (-1) * chD x k
def chU (x : Rat) : Nat → Rat
 | 0 => 1
 | 1 => x + x
 | k + 2 => (x + x) * chU x (k + 1) - chU x k
def chS (c : Nat → Rat) (P : Nat → Rat) : Nat → Rat
 | 0 => 0
 | n + 1 => chS c P n + c n * P n
def clen (c : Nat → Rat) (y : Rat) (n : Nat) : Nat → Rat × Rat
 | 0 => (0, 0)
 | j + 1 => (c (n - 1 - j) + y * (clen c y n j).1 - (clen c y n j).2, (clen c y n j).1)
theorem clen_inv {c P : Nat → Rat} {y : Rat} (hP : ∀ k, P (k + 2) = y * P (k + 1) - P k) (n : Nat) : ∀ j, j + 1 ≤ n → chS c P n = chS c P (n - j) + (clen c y n j).1 * P (n - j) - (clen c y n j).2 * P (n - j - 1)
 | 0, _ => by simp [clen]; grind
 | j + 1, h => by
  have ih := clen_inv (c := c) hP n j (by omega);obtain ⟨m, hm⟩ : ∃ m, n = m + j + 2 := ⟨n - j - 2, by omega⟩;subst hm;have e1 : m + j + 2 - j = m + 2 := (by omega);have e3 : m + j + 2 - (j + 1) = m + 1 := (by omega);have e5 : m + j + 2 - 1 - j = m + 1 := (by omega);rw [ih, e1, e3];simp only [clen, e5, chS, hP, Nat.add_sub_cancel];grind
theorem chT_step (x : Rat) (k : Nat) : chT x (k + 2) = (x + x) * chT x (k + 1) - chT x k := by
 simp only [chT]; grind
theorem value_eq (c : Nat → Rat) (x : Rat) {n : Nat} (hn : 0 < n) : c 0 + x * (clen c (x + x) n (n - 1)).1 - (clen c (x + x) n (n - 1)).2 = chS c (chT x) n := by
 rw [clen_inv (chT_step x) n (n - 1) (by omega), show n - (n - 1) = 1 by omega, show 1 - 1 = 0 from rfl];simp only [chS, chT];grind
theorem chU_T (x : Rat) : ∀ k, chT x (k + 1) = chU x (k + 1) - x * chU x k
 | 0 => by simp only [chT, chU]; grind
 | 1 => by simp only [chT, chU]; grind
 | k + 2 => by
  have h1 := chU_T x k;have h2 := chU_T x (k + 1);rw [chT_step x (k + 1), h1, h2];simp only [chU];grind
theorem chD_U (x : Rat) : ∀ k, chD x (k + 1) = ((k + 1 : Nat) : Rat) * chU x k
 | 0 => by simp [chD, chU]
 | 1 => by simp only [chD, chU, chT]; grind
 | k + 2 => by
  have h1 := chD_U x k;have h2 := chD_U x (k + 1);have h3 := chU_T x (k + 1);have e : chD x (k + 2 + 1) = 2 * (chT x (k + 2) + x * chD x (k + 2)) + (-1) * chD x (k + 1) := rfl;rw [e, h1, show chD x (k + 2) = _ from h2, show chT x (k + 2) = _ from h3];simp only [chU];push_cast
  grind
theorem chS_shift (a P : Nat → Rat) : ∀ n, chS (fun k => a (k + 1)) (fun k => P (k + 1)) n + a 0 * P 0 = chS a P (n + 1)
 | 0 => by simp [chS]
 | n + 1 => by
  have ih := chS_shift a P n;simp only [chS] at *;grind
theorem slope_eq (c : Nat → Rat) (x : Rat) {n : Nat} (hn : 1 < n) :
  c 1 + (x + x) * (clen (fun k => ((k + 1 : Nat) : Rat) * c (k + 1)) (x + x) (n - 1) (n - 2)).1 - (clen (fun k => ((k + 1 : Nat) : Rat) * c (k + 1)) (x + x) (n - 1) (n - 2)).2 = chS c (chD x) n := by
 have hU : ∀ k, chU x (k + 2) = (x + x) * chU x (k + 1) - chU x k := fun k => rfl;have h := clen_inv (c := fun k => ((k + 1 : Nat) : Rat) * c (k + 1)) hU (n - 1) (n - 2) (by omega);rw [show n - 1 - (n - 2) = 1 by omega] at h;have h2 := chS_shift c (chD x) (n - 1)
 have h3 : ∀ m, chS (fun k => c (k + 1)) (fun k => chD x (k + 1)) m = chS (fun k => ((k + 1 : Nat) : Rat) * c (k + 1)) (chU x) m := fun m => by
  induction m with
  | zero => rfl
  | succ m ih =>
   have e := chD_U x m;simp only [chS];rw [ih, e];clear h h2 hU ih e;grind
 rw [h3, show n - 1 + 1 = n by omega] at h2;rw [← h2, h, show 1 - 1 = 0 from rfl];clear h h2 h3 hU;simp only [chS, chU, chD];grind
end Go.Proofs.YtlekjkljajeodaaGreat
namespace Go.Proofs.YtlekjkljajeodaaGreat
theorem chU_step (x : Rat) (k : Nat) : chU x (k + 1) = x * chU x k + chT x (k + 1) := by
 rw [chU_T x k]; grind
theorem chT_next (x : Rat) (k : Nat) : chT x (k + 2) = x * chT x (k + 1) - (1 - x * x) * chU x k := by
 rw [chU_T x (k + 1), chU_T x k];simp only [chU];grind
theorem pell (x : Rat) : ∀ k, chT x (k + 1) * chT x (k + 1) + (1 - x * x) * (chU x k * chU x k) = 1
 | 0 => by simp only [chT, chU]; grind
 | k + 1 => by
  have ih := pell x k;rw [chT_next x k, chU_step x k];generalize chT x (k + 1) = t at *;generalize chU x k = u at *;grind
theorem sq_bd {a : Rat} (h : a * a ≤ 1) : -1 ≤ a ∧ a ≤ 1 := by
 constructor
 ·apply Rat.not_lt.1
  intro h1;have : 0 < (-1 - a) * (1 - a) := Rat.mul_pos (by grind) (by grind);grind
 ·apply Rat.not_lt.1
  intro h1;have : 0 < (a - 1) * (a + 1) := Rat.mul_pos (by grind) (by grind);grind
theorem sq_nn (a : Rat) : 0 ≤ a * a := by
 rcases (Rat.le_total : 0 ≤ a ∨ a ≤ 0) with h | h
 ·exact Rat.mul_nonneg h h
 ·have := Rat.mul_nonneg (a := -a) (b := -a) (by grind) (by grind);grind
section
variable {x y : Rat} (h1 : -1 ≤ x) (h2 : x ≤ 1)
include h1 h2
theorem one_sq : 0 ≤ 1 - x * x := by
 have := Rat.mul_nonneg (a := 1 - x) (b := 1 + x) (by grind) (by grind);grind
theorem chT_bd (k : Nat) : -1 ≤ chT x k ∧ chT x k ≤ 1 := by
 rcases k with _ | k
 ·simp only [chT]; constructor <;> decide
 ·refine sq_bd ?_;have h := pell x k;have := Rat.mul_nonneg (one_sq h1 h2) (sq_nn (chU x k));grind
theorem mul_bd {b c : Rat} (hb : -c ≤ b ∧ b ≤ c) : -c ≤ x * b ∧ x * b ≤ c := by
 have e1 := Rat.mul_nonneg (a := 1 - x) (b := c + b) (by grind) (by grind);have e2 := Rat.mul_nonneg (a := 1 + x) (b := c - b) (by grind) (by grind);have e3 := Rat.mul_nonneg (a := 1 - x) (b := c - b) (by grind) (by grind);have e4 := Rat.mul_nonneg (a := 1 + x) (b := c + b) (by grind) (by grind);constructor <;> grind
end
theorem chS_bd {x M : Rat} (h1 : -1 ≤ x) (h2 : x ≤ 1) {c : Nat → Rat} {n : Nat} (hc : ∀ k, k < n → -M ≤ c k ∧ c k ≤ M) : -((n : Rat) * M) ≤ chS c (chT x) n ∧ chS c (chT x) n ≤ (n : Rat) * M := by
 induction n with
 | zero => simp [chS]
 | succ n ih =>
  obtain ⟨i1, i2⟩ := ih fun k hk => hc k (by omega);obtain ⟨t1, t2⟩ := chT_bd h1 h2 n;obtain ⟨m1, m2⟩ := mul_bd t1 t2 (hc n (by omega));have e : ((n + 1 : Nat) : Rat) * M = (n : Rat) * M + M := (by push_cast; grind);rw [e];simp only [chS];generalize (n : Rat) * M = z at *;generalize chT x n = t at *;generalize chS c (chT x) n = s at *;constructor <;> grind
section
variable {x y : Rat} (h1 : -1 ≤ x) (h2 : x ≤ 1) (h3 : -1 ≤ y) (h4 : y ≤ 1)
include h1 h2 h3 h4
end
end Go.Proofs.YtlekjkljajeodaaGreat
namespace Go.Proofs.YtlekjkljajeodaaGreat
open Go.RowKit
theorem Cf.newF {W : World} {g : Nat} {n1 n2 : Bool} {A1 A2 : Option Addr} {m1 c1 m2 c2 : Nat} (k : Cf W g n1 A1 m1 c1 n2 A2 m2 c2) {p1 p2 : Bool} {B1 B2 : Option Addr} {q1 d1 q2 d2 : Nat} :
  Cf ((((W.setCell ⟨g, 0, none⟩ (.bool p1)).setCell ⟨g, 1, none⟩ (.slice B1 q1 d1)).setCell ⟨g, 2, none⟩ (.bool p2)).setCell ⟨g, 3, none⟩ (.slice B2 q2 d2)) g p1 B1 q1 d1 p2 B2 q2 d2 := by
 obtain ⟨h0, h1, h2, h3⟩ := k;have ne : ∀ i j : Nat, i ≠ j → (⟨g, i, none⟩ : Addr) ≠ ⟨g, j, none⟩ := fun i j hij e => hij (by injection e);have s0 := World.cell?_setCell_same W ⟨g, 0, none⟩ (.bool p1) h0;have s1 := World.cell?_setCell_same (W.setCell ⟨g, 0, none⟩ (.bool p1)) ⟨g, 1, none⟩ (.slice B1 q1 d1) ((World.cell?_setCell_other _ _ _ _ (ne 0 1 (by decide))).trans h1);have s2 := World.cell?_setCell_same ((W.setCell ⟨g, 0, none⟩ (.bool p1)).setCell ⟨g, 1, none⟩ (.slice B1 q1 d1)) ⟨g, 2, none⟩ (.bool p2) (((World.cell?_setCell_other _ _ _ _ (ne 1 2 (by decide))).trans (World.cell?_setCell_other _ _ _ _ (ne 0 2 (by decide)))).trans h2);have s3 := World.cell?_setCell_same (((W.setCell ⟨g, 0, none⟩ (.bool p1)).setCell ⟨g, 1, none⟩ (.slice B1 q1 d1)).setCell ⟨g, 2, none⟩ (.bool p2)) ⟨g, 3, none⟩ (.slice B2 q2 d2) ((((World.cell?_setCell_other _ _ _ _ (ne 2 3 (by decide))).trans (World.cell?_setCell_other _ _ _ _ (ne 1 3 (by decide)))).trans (World.cell?_setCell_other _ _ _ _ (ne 0 3 (by decide)))).trans h3);refine ⟨?_, ?_, ?_, s3⟩
 ·rw [World.cell?_setCell_other _ _ _ _ (ne 3 0 (by decide)), World.cell?_setCell_other _ _ _ _ (ne 2 0 (by decide)), World.cell?_setCell_other _ _ _ _ (ne 1 0 (by decide))]; exact s0
 ·rw [World.cell?_setCell_other _ _ _ _ (ne 3 1 (by decide)), World.cell?_setCell_other _ _ _ _ (ne 2 1 (by decide))]; exact s1
 ·rw [World.cell?_setCell_other _ _ _ _ (ne 3 2 (by decide))]; exact s2
theorem Cf.farF {W : World} {g g' : Nat} {n1 n2 : Bool} {A1 A2 : Option Addr} {m1 c1 m2 c2 : Nat} (k : Cf W g n1 A1 m1 c1 n2 A2 m2 c2) (hne : g ≠ g') (x y z u : Value) :
  Cf ((((W.setCell ⟨g', 0, none⟩ x).setCell ⟨g', 1, none⟩ y).setCell ⟨g', 2, none⟩ z).setCell ⟨g', 3, none⟩ u) g n1 A1 m1 c1 n2 A2 m2 c2 := by
 have f : ∀ (i j : Nat) (V : World) (v : Value), (V.setCell ⟨g', j, none⟩ v).cell? ⟨g, i, none⟩ = V.cell? ⟨g, i, none⟩ := fun i j V v => World.cell?_setCell_other _ _ _ _ (fun e => hne (congrArg Addr.block e).symm);obtain ⟨h0, h1, h2, h3⟩ := k;exact ⟨by rw [f, f, f, f]; exact h0, by rw [f, f, f, f]; exact h1, by rw [f, f, f, f]; exact h2, by rw [f, f, f, f]; exact h3⟩
theorem Ff.putF {W : World} {g h : Nat} (f : Ff W h) (x y z u : Value) : Ff ((((W.setCell ⟨g, 0, none⟩ x).setCell ⟨g, 1, none⟩ y).setCell ⟨g, 2, none⟩ z).setCell ⟨g, 3, none⟩ u) h := by
 obtain ⟨a, b, c, d⟩ := f;exact ⟨by simpa using a, by simpa using b, by simpa using c, by simpa using d⟩
theorem Sl.setC {w : World} {A : Option Addr} {l : List Nat} {c g : Nat} {n : Bool} {A2 : Option Addr} {n2 c2 : Nat} (h : Sl w A l c) (q : Cw w g n A2 n2 c2) (x y : Value) : Sl ((w.setCell ⟨g, 0, none⟩ x).setCell ⟨g, 1, none⟩ y) A l c := h.setW q.1 q.2 x y
section
variable {W : World} {g g' : Nat} {v0 v1 v2 v3 : Value}
theorem q1n (hne : g ≠ g') (i j : Nat) (V : World) (v : Value) : (V.setCell ⟨g', j, none⟩ v).cell? ⟨g, i, none⟩ = V.cell? ⟨g, i, none⟩ := World.cell?_setCell_other _ _ _ _ (fun e => hne (congrArg Addr.block e).symm)
theorem farF4 (h : W.cell? ⟨g, 0, none⟩ = some v0 ∧ W.cell? ⟨g, 1, none⟩ = some v1 ∧ W.cell? ⟨g, 2, none⟩ = some v2 ∧ W.cell? ⟨g, 3, none⟩ = some v3) (hne : g ≠ g') (x y z u : Value) :
  ((((W.setCell ⟨g', 0, none⟩ x).setCell ⟨g', 1, none⟩ y).setCell ⟨g', 2, none⟩ z).setCell ⟨g', 3, none⟩ u).cell? ⟨g, 0, none⟩ = some v0 ∧
  ((((W.setCell ⟨g', 0, none⟩ x).setCell ⟨g', 1, none⟩ y).setCell ⟨g', 2, none⟩ z).setCell ⟨g', 3, none⟩ u).cell? ⟨g, 1, none⟩ = some v1 ∧
  ((((W.setCell ⟨g', 0, none⟩ x).setCell ⟨g', 1, none⟩ y).setCell ⟨g', 2, none⟩ z).setCell ⟨g', 3, none⟩ u).cell? ⟨g, 2, none⟩ = some v2 ∧
  ((((W.setCell ⟨g', 0, none⟩ x).setCell ⟨g', 1, none⟩ y).setCell ⟨g', 2, none⟩ z).setCell ⟨g', 3, none⟩ u).cell? ⟨g, 3, none⟩ = some v3 := by
 refine ⟨?_, ?_, ?_, ?_⟩ <;> rw [q1n hne, q1n hne, q1n hne, q1n hne]
 ·exact h.1
 ·exact h.2.1
 ·exact h.2.2.1
 ·exact h.2.2.2
end
end Go.Proofs.YtlekjkljajeodaaGreat
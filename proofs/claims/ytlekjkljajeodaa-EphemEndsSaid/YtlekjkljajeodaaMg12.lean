import Derived.Test.YtlekjkljajeodaaMg8
/- What Over answers, and that it has the places. No program in sight. -/
namespace Go.Proofs.Ytlekjkljajeodaa
open Go.RowKit
/-- One vector lies in another. -/
structure Has (u v : V6) : Prop where
  a : u.l0 ≤ v.l0 ∧ v.h0 ≤ u.h0
  b : u.l1 ≤ v.l1 ∧ v.h1 ≤ u.h1
  c : u.l2 ≤ v.l2 ∧ v.h2 ≤ u.h2

theorem Has.refl (v : V6) : Has v v := ⟨⟨by omega, by omega⟩, ⟨by omega, by omega⟩, ⟨by omega, by omega⟩⟩

theorem Has.trans {u v w : V6} (h : Has u v) (g : Has v w) : Has u w := ⟨⟨by have := h.a; have := g.a; omega, by have := h.a; have := g.a; omega⟩, ⟨by have := h.b; have := g.b; omega, by have := h.b; have := g.b; omega⟩, ⟨by have := h.c; have := g.c; omega, by have := h.c; have := g.c; omega⟩⟩

/-- Segments, each of which begins where the one before ends. -/
structure Chn (ss : List SG) : Prop where
  lt : ∀ k (hk : k < ss.length), (ss[k]'hk).F < (ss[k]'hk).T
  ch : ∀ k (hk : k + 1 < ss.length), (ss[k + 1]'hk).F = (ss[k]'(by omega)).T

theorem Chn.tail {s : SG} {r : List SG} (h : Chn (s :: r)) : Chn r := ⟨fun k hk => h.lt (k + 1) (by simpa using hk), fun k hk => h.ch (k + 1) (by simpa using hk)⟩

end Go.Proofs.Ytlekjkljajeodaa

/- Values at the ends of a segment. No program in sight. -/
namespace Go.Proofs.Ytlekjkljajeodaa
open Go.RowKit
/-- The sum of the first coefficients, and that with alternating signs. -/
def sumI (l : List Int) : Nat → Int
  | 0 => 0
  | k + 1 => sumI l k + l.getD k 0

def altI (l : List Int) : Nat → Int
  | 0 => 0
  | k + 1 => if k % 2 = 0 then altI l k + l.getD k 0 else altI l k - l.getD k 0

theorem sumI_Q (l : List Int) : ∀ n, chS (cfQ l) (chT 1) n = ((sumI l n : Int) : Rat)
  | 0 => rfl
  | n + 1 => by
    unfold chS sumI
    rw [sumI_Q l n, chT_one, Rat.intCast_add, Rat.mul_one]
    rfl

theorem altI_Q (l : List Int) : ∀ n, chS (cfQ l) (chT (-1)) n = ((altI l n : Int) : Rat)
  | 0 => rfl
  | n + 1 => by
    unfold chS altI
    rw [altI_Q l n, chT_minus]
    unfold altS cfQ
    split
    · rw [Rat.intCast_add, Rat.mul_one]
    · rw [Rat.intCast_sub]; grind

theorem term_bd {l : List Int} (h : listB l = true) (k : Nat) : -1125899906842624 ≤ l.getD k 0 ∧ l.getD k 0 ≤ 1125899906842624 := by
  obtain ⟨h1, h2⟩ := cf_bd h k
  unfold cfQ at h1 h2
  have e1 : (((-1125899906842624 : Int)) : Rat) ≤ ((l.getD k 0 : Int) : Rat) := h1
  have e2 : ((l.getD k 0 : Int) : Rat) ≤ (((1125899906842624 : Int)) : Rat) := h2
  exact ⟨Rat.intCast_le_intCast.1 e1, Rat.intCast_le_intCast.1 e2⟩

theorem sum_bd {l : List Int} (h : listB l = true) : ∀ k : Nat, -(k * 1125899906842624) ≤ sumI l k ∧ sumI l k ≤ k * 1125899906842624 ∧ -(k * 1125899906842624) ≤ altI l k ∧ altI l k ≤ k * 1125899906842624
  | 0 => by simp [sumI, altI]
  | k + 1 => by
    have h1 := sum_bd h k
    have h2 := term_bd h k
    unfold sumI altI
    push_cast
    split <;> omega

theorem xQ_end (s : SG) (h : s.F < s.T) : xQ s s.T = 1 := by
  have h1 := div_mul (a := 2 * s.T - s.F - s.T) (b := s.T - s.F) (by omega)
  have hb : (0 : Rat) < ((s.T - s.F : Int) : Rat) := by exact_mod_cast (show (0 : Int) < s.T - s.F by omega)
  rw [show 2 * s.T - s.F - s.T = s.T - s.F by omega] at h1
  unfold xQ
  rw [show 2 * s.T - s.F - s.T = s.T - s.F by omega]
  generalize Rat.divInt (s.T - s.F) (s.T - s.F) = x at *
  generalize ((s.T - s.F : Int) : Rat) = L at *
  have : L * (x - 1) = 0 := by grind
  rcases Rat.mul_eq_zero.1 this with h2 | h2 <;> grind

theorem xQ_beg (s : SG) (h : s.F < s.T) : xQ s s.F = -1 := by
  have h1 := div_mul (a := 2 * s.F - s.F - s.T) (b := s.T - s.F) (by omega)
  have hb : (0 : Rat) < ((s.T - s.F : Int) : Rat) := by exact_mod_cast (show (0 : Int) < s.T - s.F by omega)
  have e : ((2 * s.F - s.F - s.T : Int) : Rat) = -((s.T - s.F : Int) : Rat) := by rw [← Rat.intCast_neg]; congr 1; omega
  rw [e] at h1
  unfold xQ
  generalize Rat.divInt (2 * s.F - s.F - s.T) (s.T - s.F) = x at *
  generalize ((s.T - s.F : Int) : Rat) = L at *
  have : L * (x + 1) = 0 := by grind
  rcases Rat.mul_eq_zero.1 this with h2 | h2 <;> grind

theorem six_bd {l : List Int} (h : listB l = true) (hn : l.length ≤ 6) : unS ((sumI l l.length : Int) : Rat) = (sumI l l.length, sumI l l.length, 0) ∧ unS ((altI l l.length : Int) : Rat) = (altI l l.length, altI l l.length, 0) := by
  have := sum_bd h l.length
  exact ⟨unS_int (by omega) (by omega), unS_int (by omega) (by omega)⟩

theorem plV_end {s : SG} (h : OkSeg s) : plV s s.T = ⟨sumI s.l0 s.l0.length, sumI s.l0 s.l0.length, sumI s.l1 s.l1.length, sumI s.l1 s.l1.length, sumI s.l2 s.l2.length, sumI s.l2 s.l2.length⟩ := by
  have hv := h.v
  unfold segB at hv
  simp only [Bool.and_eq_true, decide_eq_true_eq] at hv
  unfold plV vlQ
  rw [xQ_end s hv.1.1.1.1.1, sumI_Q, sumI_Q, sumI_Q, (six_bd hv.1.1.2 h.n0).1, (six_bd hv.1.2 h.n1).1, (six_bd hv.2 h.n2).1]

theorem plV_beg {s : SG} (h : OkSeg s) : plV s s.F = ⟨altI s.l0 s.l0.length, altI s.l0 s.l0.length, altI s.l1 s.l1.length, altI s.l1 s.l1.length, altI s.l2 s.l2.length, altI s.l2 s.l2.length⟩ := by
  have hv := h.v
  unfold segB at hv
  simp only [Bool.and_eq_true, decide_eq_true_eq] at hv
  unfold plV vlQ
  rw [xQ_beg s hv.1.1.1.1.1, altI_Q, altI_Q, altI_Q, (six_bd hv.1.1.2 h.n0).2, (six_bd hv.1.2 h.n1).2, (six_bd hv.2 h.n2).2]

end Go.Proofs.Ytlekjkljajeodaa

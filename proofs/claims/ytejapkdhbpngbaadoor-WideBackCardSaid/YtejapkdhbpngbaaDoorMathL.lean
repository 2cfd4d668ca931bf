/- What the laws' own helpers answer. No program in sight. -/
import Derived.Test.YtejapkdhbpngbaaDoorMathZ
namespace Go.Proofs.YtejapkdhbpngbaaDoor
def longB (most : Nat) (n1 : Bool) (l1 : List Nat) (n2 : Bool) (l2 : List Nat) (n3 : Bool) (l3 : List Nat) : Bool :=
  badL n1 l1 || badL n2 l2 || badL n3 l3 || decide (most < l1.length) || decide (most < l2.length) || decide (most < l3.length)

theorem long_facts {most : Nat} {n1 n2 n3 : Bool} {l1 l2 l3 : List Nat} (h : longB most n1 l1 n2 l2 n3 l3 = false) :
    badL n1 l1 = false ∧ badL n2 l2 = false ∧ badL n3 l3 = false ∧ l1.length ≤ most ∧ l2.length ≤ most ∧ l3.length ≤ most := by
  unfold longB at h
  simp only [Bool.or_eq_false_iff, decide_eq_false_iff_not] at h
  obtain ⟨⟨⟨⟨⟨a, b⟩, c⟩, d⟩, e⟩, f⟩ := h
  exact ⟨a, b, c, by omega, by omega, by omega⟩

theorem lt_sum {a b k : Nat} (ha : a < 4294967296 ^ k) (hb : b < 4294967296 ^ k) : a + b < 4294967296 ^ (k + 1) := by
  rw [Nat.pow_succ]; omega

end Go.Proofs.YtejapkdhbpngbaaDoor

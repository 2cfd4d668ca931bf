import Derived.Test.YtlekjkljajeodaaMg6
import Derived.Test.YtlekjkljajeodaaMg1
/- The least interval of a rational number, in units of 2^-40: by bits, and at once; boxes of whole numbers and of intervals. -/
namespace Go.Proofs.Ytlekjkljajeodaa
open Go.RowKit
def ivLo (q : Rat) : Int := (q.num * 1099511627776).fdiv q.den

def ivRem (q : Rat) : Int := (q.num * 1099511627776).fmod q.den

def ivHi (q : Rat) : Int := if ivRem q = 0 then ivLo q else ivLo q + 1

/-- Its bounds and the error. -/
def ivS (q : Rat) : Int × Int × Int := if ivLo q < -2305843009213693952 ∨ 2305843009213693952 < ivHi q then (0, 0, 16) else (ivLo q, ivHi q, 0)

section
variable {N d : Int}
theorem dm_less (hd : 0 < d) (h : N.fmod d + N.fmod d < d) : (N * 2).fdiv d = 2 * N.fdiv d ∧ (N * 2).fmod d = N.fmod d + N.fmod d := by
  obtain ⟨h1, h2, h3⟩ := dm_parts (x := N) hd
  have := div_uniq (x := N * 2) (y := d) (q := 2 * N.fdiv d) (r := N.fmod d + N.fmod d) (by omega) (by grind) ⟨fun _ => by omega, fun h => by omega⟩
  exact ⟨this.1.symm, this.2.symm⟩

theorem dm_more (hd : 0 < d) (h : ¬ N.fmod d + N.fmod d < d) : (N * 2).fdiv d = 2 * N.fdiv d + 1 ∧ (N * 2).fmod d = N.fmod d - (d - N.fmod d) := by
  obtain ⟨h1, h2, h3⟩ := dm_parts (x := N) hd
  have := div_uniq (x := N * 2) (y := d) (q := 2 * N.fdiv d + 1) (r := N.fmod d - (d - N.fmod d)) (by omega) (by grind) ⟨fun _ => by omega, fun h => by omega⟩
  exact ⟨this.1.symm, this.2.symm⟩

/-- The whole part bounds what more bits give. -/
theorem dm_pow (hd : 0 < d) (m : Nat) : N.fdiv d * 2 ^ m ≤ (N * 2 ^ m).fdiv d ∧ (N * 2 ^ m).fdiv d < (N.fdiv d + 1) * 2 ^ m := by
  induction m with
  | zero => simp; omega
  | succ m ih =>
    have e : N * 2 ^ (m + 1) = N * 2 ^ m * 2 := by rw [Int.pow_succ, ← Int.mul_assoc]
    have e1 : N.fdiv d * 2 ^ (m + 1) = N.fdiv d * 2 ^ m * 2 := by rw [Int.pow_succ, ← Int.mul_assoc]
    have e2 : (N.fdiv d + 1) * 2 ^ (m + 1) = (N.fdiv d + 1) * 2 ^ m * 2 := by rw [Int.pow_succ, ← Int.mul_assoc]
    rw [e, e1, e2]
    by_cases h : (N * 2 ^ m).fmod d + (N * 2 ^ m).fmod d < d
    · rw [(dm_less hd h).1]; omega
    · rw [(dm_more hd h).1]; omega

end
/-- What the loop has: e bits are left. -/
def ivB (q : Rat) (e : Nat) : Int := (q.num * 2 ^ (40 - e)).fdiv q.den * 2 ^ e

def ivR (q : Rat) (e : Nat) : Int := (q.num * 2 ^ (40 - e)).fmod q.den

theorem ivB_full (q : Rat) : ivB q 40 = q.num.fdiv q.den * 1099511627776 ∧ ivR q 40 = q.num.fmod q.den := by
  unfold ivB ivR; simp

theorem ivB_none (q : Rat) : ivB q 0 = ivLo q ∧ ivR q 0 = ivRem q := by
  unfold ivB ivR ivLo ivRem; simp

theorem ivR_bd (q : Rat) (e : Nat) : 0 ≤ ivR q e ∧ ivR q e < q.den := by
  have := dm_parts (x := q.num * 2 ^ (40 - e)) (den_pos' q)
  exact ⟨this.1, this.2.1⟩

theorem iv_less {q : Rat} {e : Nat} (he : 0 < e) (h40 : e ≤ 40) (h : ivR q e + ivR q e < q.den) : ivB q (e - 1) = ivB q e ∧ ivR q (e - 1) = ivR q e + ivR q e := by
  obtain ⟨f, rfl⟩ : ∃ f, e = f + 1 := ⟨e - 1, by omega⟩
  unfold ivB ivR at *
  have e1 : q.num * 2 ^ (40 - f) = q.num * 2 ^ (40 - (f + 1)) * 2 := by rw [show 40 - f = (40 - (f + 1)) + 1 by omega, Int.pow_succ, ← Int.mul_assoc]
  rw [Nat.add_sub_cancel, e1]
  obtain ⟨h1, h2⟩ := dm_less (den_pos' q) h
  rw [h1, h2, Int.pow_succ]
  exact ⟨by grind, rfl⟩

theorem iv_more {q : Rat} {e : Nat} (he : 0 < e) (h40 : e ≤ 40) (h : ¬ ivR q e + ivR q e < q.den) : ivB q (e - 1) = ivB q e + 2 ^ (e - 1) ∧ ivR q (e - 1) = ivR q e - (q.den - ivR q e) := by
  obtain ⟨f, rfl⟩ : ∃ f, e = f + 1 := ⟨e - 1, by omega⟩
  unfold ivB ivR at *
  have e1 : q.num * 2 ^ (40 - f) = q.num * 2 ^ (40 - (f + 1)) * 2 := by rw [show 40 - f = (40 - (f + 1)) + 1 by omega, Int.pow_succ, ← Int.mul_assoc]
  rw [Nat.add_sub_cancel, e1]
  obtain ⟨h1, h2⟩ := dm_more (den_pos' q) h
  rw [h1, h2, Int.pow_succ]
  exact ⟨by grind, rfl⟩

theorem ivB_bd {q : Rat} {e : Nat} (h40 : e ≤ 40) (h1 : -2097152 ≤ q.num.fdiv q.den) (h2 : q.num.fdiv q.den ≤ 2097152) : -2305843009213693952 ≤ ivB q e ∧ ivB q e ≤ 2305844108725321728 := by
  obtain ⟨a, b⟩ := dm_pow (N := q.num) (den_pos' q) (40 - e)
  have hp : (2 : Int) ^ (40 - e) * 2 ^ e = 1099511627776 := by rw [← Int.pow_add, Nat.sub_add_cancel h40]; rfl
  have h3 : (0 : Int) < 2 ^ e := Int.pow_pos (by omega)
  have a2 := Int.mul_le_mul_of_nonneg_right a (Int.le_of_lt h3)
  have b2 := Int.mul_le_mul_of_nonneg_right (Int.le_of_lt b) (Int.le_of_lt h3)
  rw [Int.mul_assoc, hp] at a2 b2
  unfold ivB
  omega

theorem iv_out {q : Rat} (h : q.num.fdiv q.den < -2097152 ∨ 2097152 < q.num.fdiv q.den) : ivS q = (0, 0, 16) := by
  have hd := den_pos' q
  obtain ⟨a, b⟩ := dm_pow (N := q.num) hd 40
  have e : (2 : Int) ^ 40 = 1099511627776 := by decide
  rw [e] at a b
  unfold ivS
  rw [if_pos]
  have hl : ivLo q = (q.num * 1099511627776).fdiv q.den := rfl
  have hh : ivLo q ≤ ivHi q := by unfold ivHi; split <;> omega
  rw [← hl] at a b
  omega

/-- The box of a whole number, free to be written, and its limbs. -/
structure BxW (w : World) (g : Nat) (z : Int) (A : Option Addr) (c : Nat) : Prop where
  k : Cw w g (wOf z).1 A (wOf z).2.length c
  f : Fw w g
  s : Sl w A (wOf z).2 c

section
variable {w w' : World} {g g' : Nat} {z x : Int} {A A' : Option Addr} {c c' : Nat}
theorem BxW.keep (h : BxW w g z A c) (hb : Below w.heap.size w w') : BxW w' g z A c := ⟨h.k.keep hb, h.f.keep h.k hb, h.s.below hb⟩

theorem BxW.fresh (hg : g = w.heap.size) (s : Sl w A (wOf z).2 c) : BxW (w.alloc (.cells #[.bool (wOf z).1, .slice A (wOf z).2.length c] 58)) g z A c := ⟨Cw.fresh hg _ _ _ _ _, Fw.fresh hg _ _, s.alloc _⟩

theorem BxW.lt (h : BxW w g z A c) : g < w.heap.size := lt_of_cell (a := ⟨g, 0, none⟩) h.k.1

theorem BxW.put (h : BxW w g z A c) (s : Sl w A' (wOf x).2 c') : BxW ((w.setCell ⟨g, 0, none⟩ (.bool (wOf x).1)).setCell ⟨g, 1, none⟩ (.slice A' (wOf x).2.length c')) g x A' c' := ⟨h.k.new, h.f.setW _ _, s.setC h.k _ _⟩

theorem BxQ.farW {q : Rat} {B : Option Addr} {d : Nat} (h : BxQ w g q A c B d) {n : Bool} {A1 : Option Addr} {m1 c1 : Nat} (k : Cw w g' n A1 m1 c1) (hne : g ≠ g') (x y : Value) : BxQ ((w.setCell ⟨g', 0, none⟩ x).setCell ⟨g', 1, none⟩ y) g q A c B d :=
  ⟨h.k.setW hne x y, h.f.setW x y, h.s.setC k x y, h.t.setC k x y⟩

end
/-- What a function of an interval and an error hands back. -/
def IvRes (r : Int × Int × Int) (w : World) : Ending → World → Prop := fun e w' => e = .returned (.tuple #[.agg #[.int .i64 r.1, .int .i64 r.2.1], .int .i64 r.2.2]) ∧ Below w.heap.size w w'

/-- What the loop of span.Of has in memory. -/
structure SO (w X : World) (gr : Nat) (q : Rat) (A : Option Addr) (c : Nat) (B : Option Addr) (d : Nat) (r : Int) (A1 : Option Addr) (c1 : Nat) : Prop where
  x : BxQ X w.heap.size q A c B d
  o : BlkV X (w.heap.size + 1) 36 #[.int .i64 0, .int .i64 0]
  r : BxW X gr r A1 c1
  hg : w.heap.size + 1 < gr
  hb : Below w.heap.size w X

section
variable {w X V : World} {gr : Nat} {q : Rat} {A B A1 A2 : Option Addr} {c d c1 c2 : Nat} {r z : Int}
theorem SO.call (h : SO w X gr q A c B d r A1 c1) (hb : Below X.heap.size X V) : SO w V gr q A c B d r A1 c1 := ⟨h.x.keep hb, h.o.keep hb, h.r.keep hb, h.hg, below_mono h.hb hb⟩

theorem SO.put (h : SO w X gr q A c B d r A1 c1) (s : Sl X A2 (wOf z).2 c2) : SO w ((X.setCell ⟨gr, 0, none⟩ (.bool (wOf z).1)).setCell ⟨gr, 1, none⟩ (.slice A2 (wOf z).2.length c2)) gr q A c B d z A2 c2 :=
  ⟨h.x.farW h.r.k (by have := h.hg; omega) _ _, (h.o.far (p := ⟨gr, 0, none⟩) (by have := h.hg; show w.heap.size + 1 ≠ gr; omega) _).far (p := ⟨gr, 1, none⟩) (by have := h.hg; show w.heap.size + 1 ≠ gr; omega) _, h.r.put s, h.hg, below_setW h.hb (by have := h.hg; omega) _ _⟩

theorem SO.cells (h : SO w X gr q A c B d r A1 c1) : X.cell? ⟨w.heap.size, 0, none⟩ = some (.bool (frQ q).1.1) ∧ X.cell? ⟨w.heap.size, 1, none⟩ = some (.slice A (frQ q).1.2.length c) ∧ X.cell? ⟨w.heap.size, 2, none⟩ = some (.bool (frQ q).2.1) ∧ X.cell? ⟨w.heap.size, 3, none⟩ = some (.slice B (frQ q).2.2.length d) ∧
    X.cell? ⟨w.heap.size + 1, 0, none⟩ = some (.int .i64 0) ∧ X.cell? ⟨w.heap.size + 1, 1, none⟩ = some (.int .i64 0) ∧ X.frozen? ⟨w.heap.size + 1, 0, none⟩ = false ∧ X.frozen? ⟨w.heap.size + 1, 1, none⟩ = false ∧
    X.cell? ⟨gr, 0, none⟩ = some (.bool (wOf r).1) ∧ X.cell? ⟨gr, 1, none⟩ = some (.slice A1 (wOf r).2.length c1) ∧ X.frozen? ⟨gr, 0, none⟩ = false ∧ X.frozen? ⟨gr, 1, none⟩ = false ∧ gr < X.heap.size :=
  ⟨h.x.k.1, h.x.k.2.1, h.x.k.2.2.1, h.x.k.2.2.2, h.o.at_ 0 rfl, h.o.at_ 1 rfl, h.o.frozen 0, h.o.frozen 1, h.r.k.1, h.r.k.2, h.r.f.1, h.r.f.2, h.r.lt⟩

theorem SO.fin (h : SO w X gr q A c B d r A1 c1) (x y : Value) : Below w.heap.size w ((X.setCell ⟨w.heap.size + 1, 0, none⟩ x).setCell ⟨w.heap.size + 1, 1, none⟩ y) := below_setW h.hb (Nat.le_succ _) x y

end
end Go.Proofs.Ytlekjkljajeodaa

/- Least intervals by floor and ceiling; numbers of units. No program in sight. -/
namespace Go.Proofs.Ytlekjkljajeodaa
theorem den_mul (q : Rat) : q * (((q.den : Nat) : Int) : Rat) = (q.num : Rat) := by
  have h1 := Rat.num_divInt_den q
  rw [Rat.divInt_eq_div] at h1
  have hd : (((q.den : Nat) : Int) : Rat) ≠ 0 := by
    intro h
    have : ((q.den : Nat) : Int) = 0 := by exact_mod_cast h
    have := q.den_pos
    omega
  have h2 := Rat.div_mul_cancel (a := (q.num : Rat)) hd
  rw [h1] at h2
  exact h2

theorem ivLo_floor (q : Rat) : ivLo q = (q * 1099511627776).floor := by
  have key : ∀ z : Int, z ≤ ivLo q ↔ z ≤ (q * 1099511627776).floor := fun z => by
    rw [Rat.le_floor_iff]
    have hd := den_pos' q
    have h0 := den_mul q
    obtain ⟨r1, r2, r3⟩ := dm_parts (x := q.num * 1099511627776) hd
    have hdR : (0 : Rat) < (((q.den : Nat) : Int) : Rat) := by exact_mod_cast hd
    have e1 : (z : Rat) ≤ q * 1099511627776 ↔ z * ((q.den : Nat) : Int) ≤ q.num * 1099511627776 := by
      have e2 : (z * ((q.den : Nat) : Int) ≤ q.num * 1099511627776) ↔ ((z : Rat) * (((q.den : Nat) : Int) : Rat) ≤ (q.num : Rat) * 1099511627776) := by
        rw [← Rat.intCast_le_intCast, Rat.intCast_mul, Rat.intCast_mul]; rfl
      rw [e2, ← h0]
      generalize (((q.den : Nat) : Int) : Rat) = d at *
      constructor
      · intro h
        have := Rat.mul_le_mul_of_nonneg_right h (Rat.le_of_lt hdR)
        grind
      · intro h
        apply Rat.not_lt.1
        intro h2
        have := Rat.mul_pos (a := z - q * 1099511627776) (b := d) (by grind) hdR
        grind
    rw [e1]
    unfold ivLo
    generalize (q.num * 1099511627776).fdiv ((q.den : Nat) : Int) = a at *
    generalize (q.num * 1099511627776).fmod ((q.den : Nat) : Int) = r at *
    generalize ((q.den : Nat) : Int) = d at *
    generalize q.num * 1099511627776 = n at *
    constructor
    · intro h
      have := Int.mul_le_mul_of_nonneg_right h (Int.le_of_lt hd)
      grind
    · intro h
      apply Int.not_lt.1
      intro h2
      have := Int.mul_le_mul_of_nonneg_right (show a + 1 ≤ z by omega) (Int.le_of_lt hd)
      grind
  have a := (key (ivLo q)).1 (Int.le_refl _)
  have b := (key _).2 (Int.le_refl _)
  omega

theorem ivRem_zero (q : Rat) : ivRem q = 0 ↔ ((ivLo q : Int) : Rat) = q * 1099511627776 := by
  have hd := den_pos' q
  have h0 := den_mul q
  obtain ⟨r1, r2, r3⟩ := dm_parts (x := q.num * 1099511627776) hd
  unfold ivLo ivRem
  have hdR : (0 : Rat) < (((q.den : Nat) : Int) : Rat) := by exact_mod_cast hd
  have e3 : (((q.den : Nat) : Int) : Rat) * (((q.num * 1099511627776).fdiv ((q.den : Nat) : Int) : Int) : Rat) + (((q.num * 1099511627776).fmod ((q.den : Nat) : Int) : Int) : Rat) = (q.num : Rat) * 1099511627776 := by
    have h : ((((q.den : Nat) : Int) * (q.num * 1099511627776).fdiv ((q.den : Nat) : Int) + (q.num * 1099511627776).fmod ((q.den : Nat) : Int) : Int) : Rat) = ((q.num * 1099511627776 : Int) : Rat) := by rw [r3]
    rw [Rat.intCast_add, Rat.intCast_mul, Rat.intCast_mul] at h
    exact h
  generalize (q.num * 1099511627776).fdiv ((q.den : Nat) : Int) = a at *
  generalize (q.num * 1099511627776).fmod ((q.den : Nat) : Int) = r at *
  rw [← h0] at e3
  generalize (((q.den : Nat) : Int) : Rat) = d at *
  constructor
  · intro h
    subst h
    have e4 : d * (((a : Int) : Rat) - q * 1099511627776) = 0 := by simp at e3; grind
    rcases Rat.mul_eq_zero.1 e4 with h | h
    · grind
    · grind
  · intro h
    have : ((r : Int) : Rat) = 0 := by rw [h] at e3; grind
    exact_mod_cast this

theorem ivHi_ceil (q : Rat) : ivHi q = (q * 1099511627776).ceil := by
  have hr := ivRem_zero q
  have f1 := Rat.le_floor_iff (x := ivLo q) (a := q * 1099511627776)
  rw [← ivLo_floor] at f1
  have f2 := Rat.le_floor_iff (x := ivLo q + 1) (a := q * 1099511627776)
  rw [← ivLo_floor] at f2
  have f1' := f1.1 (Int.le_refl _)
  have f2' : ¬ (((ivLo q + 1 : Int) : Rat) ≤ q * 1099511627776) := fun h => by have := f2.2 h; omega
  have key : ∀ z : Int, ivHi q ≤ z ↔ (q * 1099511627776).ceil ≤ z := fun z => by
    rw [Rat.ceil_le_iff]
    unfold ivHi
    split
    · rename_i h
      rw [← hr.1 h, Rat.intCast_le_intCast]
    · rename_i h
      rw [Rat.intCast_add] at f2'
      have hne : ((ivLo q : Int) : Rat) ≠ q * 1099511627776 := fun h2 => h (hr.2 h2)
      constructor
      · intro h3
        have h4 : ((ivLo q + 1 : Int) : Rat) ≤ (z : Rat) := Rat.intCast_le_intCast.2 h3
        rw [Rat.intCast_add] at h4
        grind
      · intro h3
        have h4 : ((ivLo q : Int) : Rat) < (z : Rat) := by grind
        have := Rat.intCast_lt_intCast.1 h4
        omega
  have a := (key (ivHi q)).1 (Int.le_refl _)
  have b := (key _).2 (Int.le_refl _)
  omega

theorem unit_mul (v : Rat) : v * Rat.divInt 1 1099511627776 * 1099511627776 = v := by
  rw [Rat.divInt_eq_div]
  have h := Rat.div_mul_cancel (a := (((1 : Int)) : Rat)) (b := ((1099511627776 : Int) : Rat)) (by decide)
  have e : (((1 : Int)) : Rat) / ((1099511627776 : Int) : Rat) * (1099511627776 : Rat) = 1 := h
  rw [Rat.mul_assoc, e, Rat.mul_one]

/-- What units returns of a number of units. -/
def unS (v : Rat) : Int × Int × Int := if v.floor < -2305843009213693952 ∨ 2305843009213693952 < v.ceil then (0, 0, 16) else (v.floor, v.ceil, 0)

theorem unS_eq (v : Rat) : ivS (v * Rat.divInt 1 1099511627776) = unS v := by
  unfold ivS unS
  rw [ivLo_floor, ivHi_ceil, unit_mul]

theorem unS_int {n : Int} (h1 : -2305843009213693952 ≤ n) (h2 : n ≤ 2305843009213693952) : unS (n : Rat) = (n, n, 0) := by
  have e2 : ((n : Int) : Rat).ceil = n := by rw [Rat.ceil_eq_neg_floor_neg, ← Rat.intCast_neg, Rat.floor_intCast]; omega
  unfold unS
  rw [Rat.floor_intCast, e2, if_neg (by omega)]

end Go.Proofs.Ytlekjkljajeodaa

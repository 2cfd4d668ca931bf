import Derived.Test.YtlekjkljajeodaaGreatF3
import Derived.Deep.RegionHeld3
import Derived.Test.YtlekjkljajeodaaGreatMg3
namespace Go.Proofs.YtlekjkljajeodaaGreat
open Go.RowKit
attribute [local go_sem ↓] Go.wp_at_zero Go.wp_at_succ
theorem part_end {r : (Bool × List Nat) × (Bool × List Nat)} {w w3 : World} {g c c' : Nat} {A A' : Option Addr} {n1 n2 : Bool} {A1 A2 : Option Addr} {m1 c1 m2 c2 : Nat} (hs : Sl w3 A r.1.2 c) (hs' : Sl w3 A' r.2.2 c') (q : Cf w3 g n1 A1 m1 c1 n2 A2 m2 c2) (hb : Below w.heap.size w w3) (hg : w.heap.size ≤ g) (x y z u : Value) (o : Obj) :
  q1g r w (.returned (.agg #[.bool r.1.1, .slice A r.1.2.length c, .bool r.2.1, .slice A' r.2.2.length c'])) (((((w3.setCell ⟨g, 0, none⟩ x).setCell ⟨g, 1, none⟩ y).setCell ⟨g, 2, none⟩ z).setCell ⟨g, 3, none⟩ u).alloc o) :=
 ⟨A, c, A', c', rfl, (hs.setF q _ _ _ _).alloc _, (hs'.setF q _ _ _ _).alloc _, (q0f hb hg _ _ _ _).alloc (by have := hb.size; simp [World.setCell]; omega) _⟩
end Go.Proofs.YtlekjkljajeodaaGreat
namespace Go.Proofs.YtlekjkljajeodaaGreat
open Go.Lib
end Go.Proofs.YtlekjkljajeodaaGreat
namespace Go.Proofs.YtlekjkljajeodaaGreat
open Go.RowKit
structure BxQ (w : World) (g : Nat) (q : Rat) (A : Option Addr) (c : Nat) (B : Option Addr) (d : Nat) : Prop where
 k : Cf w g (frQ q).1.1 A (frQ q).1.2.length c (frQ q).2.1 B (frQ q).2.2.length d
 f : Ff w g
 s : Sl w A (frQ q).1.2 c
 t : Sl w B (frQ q).2.2 d
section
variable {w w' : World} {g g' : Nat} {p q : Rat} {A B A' B' : Option Addr} {c d c' d' : Nat}
theorem BxQ.keep (h : BxQ w g q A c B d) (hb : Below w.heap.size w w') : BxQ w' g q A c B d := ⟨h.k.keep hb, h.f.keep h.k hb, h.s.below hb, h.t.below hb⟩
theorem BxQ.drew (h : BxQ w g q A c B d) : BxQ w.drew g q A c B d := ⟨h.k, h.f, h.s.drew, h.t.drew⟩
theorem BxQ.alloc (h : BxQ w g q A c B d) (o : Obj) : BxQ (w.alloc o) g q A c B d := h.keep (blw1 w o)
theorem BxQ.fresh (hg : g = w.heap.size) (s : Sl w A (frQ q).1.2 c) (t : Sl w B (frQ q).2.2 d) : BxQ (w.alloc (.cells #[.bool (frQ q).1.1, .slice A (frQ q).1.2.length c, .bool (frQ q).2.1, .slice B (frQ q).2.2.length d] 67)) g q A c B d :=
 ⟨Cf.fresh hg _ _ _ _ _ _ _ _ _, Ff.fresh hg _ _, s.alloc _, t.alloc _⟩
theorem BxQ.lt (h : BxQ w g q A c B d) : g < w.heap.size := lt_of_cell (a := ⟨g, 0, none⟩) h.k.1
theorem BxQ.far (h : BxQ w g q A c B d) {n1 n2 : Bool} {A1 A2 : Option Addr} {m1 c1 m2 c2 : Nat} (k : Cf w g' n1 A1 m1 c1 n2 A2 m2 c2) (hne : g ≠ g') (x y z u : Value) : BxQ (((((w).setCell ⟨g', 0, none⟩ (x)).setCell ⟨g', 1, none⟩ (y)).setCell ⟨g', 2, none⟩ (z)).setCell ⟨g', 3, none⟩ (u)) g q A c B d :=
 ⟨h.k.farF hne x y z u, h.f.putF x y z u, h.s.setF k x y z u, h.t.setF k x y z u⟩
theorem BxQ.put {n1 n2 : Bool} {A1 A2 : Option Addr} {m1 c1 m2 c2 : Nat} (k : Cf w g n1 A1 m1 c1 n2 A2 m2 c2) (f : Ff w g) (s : Sl w A (frQ q).1.2 c) (t : Sl w B (frQ q).2.2 d) : BxQ (((((w).setCell ⟨g, 0, none⟩ (.bool (frQ q).1.1)).setCell ⟨g, 1, none⟩ (.slice A (frQ q).1.2.length c)).setCell ⟨g, 2, none⟩ (.bool (frQ q).2.1)).setCell ⟨g, 3, none⟩ (.slice B (frQ q).2.2.length d)) g q A c B d :=
 ⟨k.newF, f.putF _ _ _ _, s.setF k _ _ _ _, t.setF k _ _ _ _⟩
theorem BxQ.below {a : World} {b : Nat} (hb : Below b a w) (hg : b ≤ g) (x y z u : Value) : Below b a (((((w).setCell ⟨g, 0, none⟩ (x)).setCell ⟨g, 1, none⟩ (y)).setCell ⟨g, 2, none⟩ (z)).setCell ⟨g, 3, none⟩ (u)) := q0f hb hg x y z u
end
def F2Res (p q : Rat) (w : World) : Ending → World → Prop := fun e w' =>
 ∃ A1 c1 B1 d1 A2 c2 B2 d2, e = .returned (.tuple #[.agg #[.bool (frQ p).1.1, .slice A1 (frQ p).1.2.length c1, .bool (frQ p).2.1, .slice B1 (frQ p).2.2.length d1], .agg #[.bool (frQ q).1.1, .slice A2 (frQ q).1.2.length c2, .bool (frQ q).2.1, .slice B2 (frQ q).2.2.length d2]]) ∧ Sl w' A1 (frQ p).1.2 c1 ∧ Sl w' B1 (frQ p).2.2 d1 ∧ Sl w' A2 (frQ q).1.2 c2 ∧ Sl w' B2 (frQ q).2.2 d2 ∧ Below w.heap.size w w'
structure CL (w X : World) (y p q : Rat) (A : Option Addr) (c : Nat) (B : Option Addr) (d : Nat) (A1 : Option Addr) (c1 : Nat) (B1 : Option Addr) (d1 : Nat) (A2 : Option Addr) (c2 : Nat) (B2 : Option Addr) (d2 : Nat) : Prop where
 x : BxQ X w.heap.size y A c B d
 u : BxQ X (w.heap.size + 1) p A1 c1 B1 d1
 v : BxQ X (w.heap.size + 2) q A2 c2 B2 d2
 hb : Below w.heap.size w X
section
variable {w X V : World} {y p q r : Rat} {A B A1 B1 A2 B2 A3 B3 : Option Addr} {c d c1 d1 c2 d2 c3 d3 : Nat}
theorem CL.held (h : CL w X y p q A c B d A1 c1 B1 d1 A2 c2 B2 d2) : X.cell? ⟨w.heap.size, 0, none⟩ = some (.bool (frQ y).1.1) ∧ X.cell? ⟨w.heap.size, 1, none⟩ = some (.slice A (frQ y).1.2.length c) ∧ X.cell? ⟨w.heap.size, 2, none⟩ = some (.bool (frQ y).2.1) ∧ X.cell? ⟨w.heap.size, 3, none⟩ = some (.slice B (frQ y).2.2.length d) ∧ X.cell? ⟨w.heap.size + 1, 0, none⟩ = some (.bool (frQ p).1.1) ∧ X.cell? ⟨w.heap.size + 1, 1, none⟩ = some (.slice A1 (frQ p).1.2.length c1) ∧ X.cell? ⟨w.heap.size + 1, 2, none⟩ = some (.bool (frQ p).2.1) ∧ X.cell? ⟨w.heap.size + 1, 3, none⟩ = some (.slice B1 (frQ p).2.2.length d1) ∧ X.cell? ⟨w.heap.size + 2, 0, none⟩ = some (.bool (frQ q).1.1) ∧ X.cell? ⟨w.heap.size + 2, 1, none⟩ = some (.slice A2 (frQ q).1.2.length c2) ∧ X.cell? ⟨w.heap.size + 2, 2, none⟩ = some (.bool (frQ q).2.1) ∧ X.cell? ⟨w.heap.size + 2, 3, none⟩ = some (.slice B2 (frQ q).2.2.length d2) := ⟨h.x.k.1, h.x.k.2.1, h.x.k.2.2.1, h.x.k.2.2.2, h.u.k.1, h.u.k.2.1, h.u.k.2.2.1, h.u.k.2.2.2, h.v.k.1, h.v.k.2.1, h.v.k.2.2.1, h.v.k.2.2.2⟩
theorem CL.call (h : CL w X y p q A c B d A1 c1 B1 d1 A2 c2 B2 d2) (hb : Below X.heap.size X V) : CL w V y p q A c B d A1 c1 B1 d1 A2 c2 B2 d2 := ⟨h.x.keep hb, h.u.keep hb, h.v.keep hb, q0a h.hb hb⟩
theorem CL.drew (h : CL w X y p q A c B d A1 c1 B1 d1 A2 c2 B2 d2) : CL w X.drew y p q A c B d A1 c1 B1 d1 A2 c2 B2 d2 := ⟨h.x.drew, h.u.drew, h.v.drew, h.hb.drew⟩
theorem CL.cells (h : CL w X y p q A c B d A1 c1 B1 d1 A2 c2 B2 d2) : X.cell? ⟨w.heap.size, 0, none⟩ = some (.bool (frQ y).1.1) ∧ X.cell? ⟨w.heap.size, 1, none⟩ = some (.slice A (frQ y).1.2.length c) ∧ X.cell? ⟨w.heap.size, 2, none⟩ = some (.bool (frQ y).2.1) ∧ X.cell? ⟨w.heap.size, 3, none⟩ = some (.slice B (frQ y).2.2.length d) ∧ X.cell? ⟨w.heap.size + 1, 0, none⟩ = some (.bool (frQ p).1.1) ∧ X.cell? ⟨w.heap.size + 1, 1, none⟩ = some (.slice A1 (frQ p).1.2.length c1) ∧ X.cell? ⟨w.heap.size + 1, 2, none⟩ = some (.bool (frQ p).2.1) ∧ X.cell? ⟨w.heap.size + 1, 3, none⟩ = some (.slice B1 (frQ p).2.2.length d1) ∧ X.cell? ⟨w.heap.size + 2, 0, none⟩ = some (.bool (frQ q).1.1) ∧ X.cell? ⟨w.heap.size + 2, 1, none⟩ = some (.slice A2 (frQ q).1.2.length c2) ∧ X.cell? ⟨w.heap.size + 2, 2, none⟩ = some (.bool (frQ q).2.1) ∧ X.cell? ⟨w.heap.size + 2, 3, none⟩ = some (.slice B2 (frQ q).2.2.length d2) ∧ X.frozen? ⟨w.heap.size + 1, 0, none⟩ = false ∧ X.frozen? ⟨w.heap.size + 1, 1, none⟩ = false ∧ X.frozen? ⟨w.heap.size + 1, 2, none⟩ = false ∧ X.frozen? ⟨w.heap.size + 1, 3, none⟩ = false ∧ X.frozen? ⟨w.heap.size + 2, 0, none⟩ = false ∧ X.frozen? ⟨w.heap.size + 2, 1, none⟩ = false ∧ X.frozen? ⟨w.heap.size + 2, 2, none⟩ = false ∧ X.frozen? ⟨w.heap.size + 2, 3, none⟩ = false := ⟨h.x.k.1, h.x.k.2.1, h.x.k.2.2.1, h.x.k.2.2.2, h.u.k.1, h.u.k.2.1, h.u.k.2.2.1, h.u.k.2.2.2, h.v.k.1, h.v.k.2.1, h.v.k.2.2.1, h.v.k.2.2.2, h.u.f.1, h.u.f.2.1, h.u.f.2.2.1, h.u.f.2.2.2, h.v.f.1, h.v.f.2.1, h.v.f.2.2.1, h.v.f.2.2.2⟩
theorem CL.step (h : CL w X y p q A c B d A1 c1 B1 d1 A2 c2 B2 d2) (s : Sl X A3 (frQ r).1.2 c3) (t : Sl X B3 (frQ r).2.2 d3) :
  CL w (((((((((X).setCell ⟨w.heap.size + 1, 0, none⟩ (.bool (frQ r).1.1)).setCell ⟨w.heap.size + 1, 1, none⟩ (.slice A3 (frQ r).1.2.length c3)).setCell ⟨w.heap.size + 1, 2, none⟩ (.bool (frQ r).2.1)).setCell ⟨w.heap.size + 1, 3, none⟩ (.slice B3 (frQ r).2.2.length d3)).setCell ⟨w.heap.size + 2, 0, none⟩ (.bool (frQ p).1.1)).setCell ⟨w.heap.size + 2, 1, none⟩ (.slice A1 (frQ p).1.2.length c1)).setCell ⟨w.heap.size + 2, 2, none⟩ (.bool (frQ p).2.1)).setCell ⟨w.heap.size + 2, 3, none⟩ (.slice B1 (frQ p).2.2.length d1)) y r p A c B d A3 c3 B3 d3 A1 c1 B1 d1 :=
 ⟨(h.x.far h.u.k (by omega) _ _ _ _).far (h.v.far h.u.k (by omega) _ _ _ _).k (by omega) _ _ _ _, (BxQ.put h.u.k h.u.f s t).far (h.v.far h.u.k (by omega) _ _ _ _).k (by omega) _ _ _ _,
  BxQ.put (h.v.far h.u.k (by omega) _ _ _ _).k (h.v.far h.u.k (by omega) _ _ _ _).f (h.u.s.setF h.u.k _ _ _ _) (h.u.t.setF h.u.k _ _ _ _), BxQ.below (BxQ.below h.hb (by omega) _ _ _ _) (by omega) _ _ _ _⟩
theorem CL.same (h : CL w X y p q A c B d A1 c1 B1 d1 A2 c2 B2 d2) :
  CL w (((((((((X).setCell ⟨w.heap.size + 1, 0, none⟩ (.bool (frQ p).1.1)).setCell ⟨w.heap.size + 1, 1, none⟩ (.slice A1 (frQ p).1.2.length c1)).setCell ⟨w.heap.size + 1, 2, none⟩ (.bool (frQ p).2.1)).setCell ⟨w.heap.size + 1, 3, none⟩ (.slice B1 (frQ p).2.2.length d1)).setCell ⟨w.heap.size + 2, 0, none⟩ (.bool (frQ q).1.1)).setCell ⟨w.heap.size + 2, 1, none⟩ (.slice A2 (frQ q).1.2.length c2)).setCell ⟨w.heap.size + 2, 2, none⟩ (.bool (frQ q).2.1)).setCell ⟨w.heap.size + 2, 3, none⟩ (.slice B2 (frQ q).2.2.length d2)) y p q A c B d A1 c1 B1 d1 A2 c2 B2 d2 :=
 ⟨(h.x.far h.u.k (by omega) _ _ _ _).far (h.v.far h.u.k (by omega) _ _ _ _).k (by omega) _ _ _ _, (BxQ.put h.u.k h.u.f h.u.s h.u.t).far (h.v.far h.u.k (by omega) _ _ _ _).k (by omega) _ _ _ _,
  BxQ.put (h.v.far h.u.k (by omega) _ _ _ _).k (h.v.far h.u.k (by omega) _ _ _ _).f (h.v.s.setF h.u.k _ _ _ _) (h.v.t.setF h.u.k _ _ _ _), BxQ.below (BxQ.below h.hb (by omega) _ _ _ _) (by omega) _ _ _ _⟩
theorem CL.init (k : BxQ X w.heap.size y A c B d) (ku : Cf X (w.heap.size + 1) false none 0 0 false none 0 0) (fu : Ff X (w.heap.size + 1)) (kv : Cf X (w.heap.size + 2) false none 0 0 false none 0 0) (fv : Ff X (w.heap.size + 2)) (hb : Below w.heap.size w X)
  (s1 : Sl X A1 (frQ p).1.2 c1) (t1 : Sl X B1 (frQ p).2.2 d1) (s2 : Sl X A2 (frQ q).1.2 c2) (t2 : Sl X B2 (frQ q).2.2 d2) :
  CL w (((((((((X).setCell ⟨w.heap.size + 1, 0, none⟩ (.bool (frQ p).1.1)).setCell ⟨w.heap.size + 1, 1, none⟩ (.slice A1 (frQ p).1.2.length c1)).setCell ⟨w.heap.size + 1, 2, none⟩ (.bool (frQ p).2.1)).setCell ⟨w.heap.size + 1, 3, none⟩ (.slice B1 (frQ p).2.2.length d1)).setCell ⟨w.heap.size + 2, 0, none⟩ (.bool (frQ q).1.1)).setCell ⟨w.heap.size + 2, 1, none⟩ (.slice A2 (frQ q).1.2.length c2)).setCell ⟨w.heap.size + 2, 2, none⟩ (.bool (frQ q).2.1)).setCell ⟨w.heap.size + 2, 3, none⟩ (.slice B2 (frQ q).2.2.length d2)) y p q A c B d A1 c1 B1 d1 A2 c2 B2 d2 :=
 ⟨(k.far ku (by omega) _ _ _ _).far (kv.farF (by omega) _ _ _ _) (by omega) _ _ _ _, (BxQ.put ku fu s1 t1).far (kv.farF (by omega) _ _ _ _) (by omega) _ _ _ _,
  BxQ.put (kv.farF (by omega) _ _ _ _) (fv.putF _ _ _ _) (s2.setF ku _ _ _ _) (t2.setF ku _ _ _ _), BxQ.below (BxQ.below hb (by omega) _ _ _ _) (by omega) _ _ _ _⟩
theorem CL.res (h : CL w X y p q A c B d A1 c1 B1 d1 A2 c2 B2 d2) : F2Res p q w (.returned (.tuple #[.agg #[.bool (frQ p).1.1, .slice A1 (frQ p).1.2.length c1, .bool (frQ p).2.1, .slice B1 (frQ p).2.2.length d1], .agg #[.bool (frQ q).1.1, .slice A2 (frQ q).1.2.length c2, .bool (frQ q).2.1, .slice B2 (frQ q).2.2.length d2]])) X :=
 ⟨A1, c1, B1, d1, A2, c2, B2, d2, rfl, h.u.s, h.u.t, h.v.s, h.v.t, h.hb⟩
end
end Go.Proofs.YtlekjkljajeodaaGreat
namespace Go.Proofs.YtlekjkljajeodaaGreat
open Go.RowKit
def ivLo (q : Rat) : Int := (q.num * 1099511627776).fdiv q.den
def ivRem (q : Rat) : Int := (q.num * 1099511627776).fmod q.den
def ivHi (q : Rat) : Int := if ivRem q = 0 then ivLo q else ivLo q + 1
def ivS (q : Rat) : Int × Int × Int := if ivLo q < -2305843009213693952 ∨ 2305843009213693952 < ivHi q then (0, 0, 16) else (ivLo q, ivHi q, 0)
section
variable {N d : Int}
theorem dm_less (hd : 0 < d) (h : N.fmod d + N.fmod d < d) : (N * 2).fdiv d = 2 * N.fdiv d ∧ (N * 2).fmod d = N.fmod d + N.fmod d := by
 obtain ⟨h1, h2, h3⟩ := dm_parts (x := N) hd;have := div_uniq (x := N * 2) (y := d) (q := 2 * N.fdiv d) (r := N.fmod d + N.fmod d) (by omega) (by grind) ⟨fun _ => by omega, fun h => by omega⟩;exact ⟨this.1.symm, this.2.symm⟩
theorem dm_more (hd : 0 < d) (h : ¬ N.fmod d + N.fmod d < d) : (N * 2).fdiv d = 2 * N.fdiv d + 1 ∧ (N * 2).fmod d = N.fmod d - (d - N.fmod d) := by
 obtain ⟨h1, h2, h3⟩ := dm_parts (x := N) hd;have := div_uniq (x := N * 2) (y := d) (q := 2 * N.fdiv d + 1) (r := N.fmod d - (d - N.fmod d)) (by omega) (by grind) ⟨fun _ => by omega, fun h => by omega⟩;exact ⟨this.1.symm, this.2.symm⟩
theorem dm_pow (hd : 0 < d) (m : Nat) : N.fdiv d * 2 ^ m ≤ (N * 2 ^ m).fdiv d ∧ (N * 2 ^ m).fdiv d < (N.fdiv d + 1) * 2 ^ m := by
 induction m with
 | zero => simp; omega
 | succ m ih =>
  have e : N * 2 ^ (m + 1) = N * 2 ^ m * 2 := (by rw [Int.pow_succ, ← Int.mul_assoc]);have e1 : N.fdiv d * 2 ^ (m + 1) = N.fdiv d * 2 ^ m * 2 := (by rw [Int.pow_succ, ← Int.mul_assoc]);have e2 : (N.fdiv d + 1) * 2 ^ (m + 1) = (N.fdiv d + 1) * 2 ^ m * 2 := (by rw [Int.pow_succ, ← Int.mul_assoc]);rw [e, e1, e2];by_cases h : (N * 2 ^ m).fmod d + (N * 2 ^ m).fmod d < d
  ·rw [(dm_less hd h).1]; omega
  ·rw [(dm_more hd h).1]; omega
end
def ivB (q : Rat) (e : Nat) : Int := (q.num * 2 ^ (40 - e)).fdiv q.den * 2 ^ e
def ivR (q : Rat) (e : Nat) : Int := (q.num * 2 ^ (40 - e)).fmod q.den
theorem ivB_full (q : Rat) : ivB q 40 = q.num.fdiv q.den * 1099511627776 ∧ ivR q 40 = q.num.fmod q.den := by
 unfold ivB ivR; simp
theorem ivB_none (q : Rat) : ivB q 0 = ivLo q ∧ ivR q 0 = ivRem q := by
 unfold ivB ivR ivLo ivRem; simp
theorem ivR_bd (q : Rat) (e : Nat) : 0 ≤ ivR q e ∧ ivR q e < q.den := by
 have := dm_parts (x := q.num * 2 ^ (40 - e)) (q1j q);exact ⟨this.1, this.2.1⟩
theorem iv_less {q : Rat} {e : Nat} (he : 0 < e) (h40 : e ≤ 40) (h : ivR q e + ivR q e < q.den) : ivB q (e - 1) = ivB q e ∧ ivR q (e - 1) = ivR q e + ivR q e := by
 obtain ⟨f, rfl⟩ : ∃ f, e = f + 1 := ⟨e - 1, by omega⟩;unfold ivB ivR at *;have e1 : q.num * 2 ^ (40 - f) = q.num * 2 ^ (40 - (f + 1)) * 2 := (by rw [show 40 - f = (40 - (f + 1)) + 1 by omega, Int.pow_succ, ← Int.mul_assoc]);rw [Nat.add_sub_cancel, e1];obtain ⟨h1, h2⟩ := dm_less (q1j q) h;rw [h1, h2, Int.pow_succ];exact ⟨by grind, rfl⟩
theorem iv_more {q : Rat} {e : Nat} (he : 0 < e) (h40 : e ≤ 40) (h : ¬ ivR q e + ivR q e < q.den) : ivB q (e - 1) = ivB q e + 2 ^ (e - 1) ∧ ivR q (e - 1) = ivR q e - (q.den - ivR q e) := by
 obtain ⟨f, rfl⟩ : ∃ f, e = f + 1 := ⟨e - 1, by omega⟩;unfold ivB ivR at *;have e1 : q.num * 2 ^ (40 - f) = q.num * 2 ^ (40 - (f + 1)) * 2 := (by rw [show 40 - f = (40 - (f + 1)) + 1 by omega, Int.pow_succ, ← Int.mul_assoc]);rw [Nat.add_sub_cancel, e1];obtain ⟨h1, h2⟩ := dm_more (q1j q) h;rw [h1, h2, Int.pow_succ];exact ⟨by grind, rfl⟩
theorem ivB_bd {q : Rat} {e : Nat} (h40 : e ≤ 40) (h1 : -2097152 ≤ q.num.fdiv q.den) (h2 : q.num.fdiv q.den ≤ 2097152) : -2305843009213693952 ≤ ivB q e ∧ ivB q e ≤ 2305844108725321728 := by
 obtain ⟨a, b⟩ := dm_pow (N := q.num) (q1j q) (40 - e);have hp : (2 : Int) ^ (40 - e) * 2 ^ e = 1099511627776 := (by rw [← Int.pow_add, Nat.sub_add_cancel h40]; rfl);have h3 : (0 : Int) < 2 ^ e := Int.pow_pos (by omega);have a2 := Int.mul_le_mul_of_nonneg_right a (Int.le_of_lt h3);have b2 := Int.mul_le_mul_of_nonneg_right (Int.le_of_lt b) (Int.le_of_lt h3);rw [Int.mul_assoc, hp] at a2 b2;unfold ivB;omega
theorem iv_out {q : Rat} (h : q.num.fdiv q.den < -2097152 ∨ 2097152 < q.num.fdiv q.den) : ivS q = (0, 0, 16) := by
 have hd := q1j q;obtain ⟨a, b⟩ := dm_pow (N := q.num) hd 40;have e : (2 : Int) ^ 40 = 1099511627776 := (by decide);rw [e] at a b;unfold ivS;rw [if_pos];have hl : ivLo q = (q.num * 1099511627776).fdiv q.den := rfl;have hh : ivLo q ≤ ivHi q := (by unfold ivHi; split <;> omega);rw [← hl] at a b;omega
structure BxW (w : World) (g : Nat) (z : Int) (A : Option Addr) (c : Nat) : Prop where
 k : Cw w g (wOf z).1 A (wOf z).2.length c
 f : Fw w g
 s : Sl w A (wOf z).2 c
section
variable {w w' : World} {g g' : Nat} {z x : Int} {A A' : Option Addr} {c c' : Nat}
theorem BxW.keep (h : BxW w g z A c) (hb : Below w.heap.size w w') : BxW w' g z A c := ⟨h.k.keep hb, h.f.keep h.k hb, h.s.below hb⟩
theorem BxW.fresh (hg : g = w.heap.size) (s : Sl w A (wOf z).2 c) : BxW (w.alloc (.cells #[.bool (wOf z).1, .slice A (wOf z).2.length c] 65)) g z A c := ⟨Cw.fresh hg _ _ _ _ _, Fw.fresh hg _ _, s.alloc _⟩
theorem BxW.lt (h : BxW w g z A c) : g < w.heap.size := lt_of_cell (a := ⟨g, 0, none⟩) h.k.1
theorem BxW.put (h : BxW w g z A c) (s : Sl w A' (wOf x).2 c') : BxW ((w.setCell ⟨g, 0, none⟩ (.bool (wOf x).1)).setCell ⟨g, 1, none⟩ (.slice A' (wOf x).2.length c')) g x A' c' := ⟨h.k.new, h.f.setW _ _, s.setC h.k _ _⟩
theorem BxQ.farW {q : Rat} {B : Option Addr} {d : Nat} (h : BxQ w g q A c B d) {n : Bool} {A1 : Option Addr} {m1 c1 : Nat} (k : Cw w g' n A1 m1 c1) (hne : g ≠ g') (x y : Value) : BxQ ((w.setCell ⟨g', 0, none⟩ x).setCell ⟨g', 1, none⟩ y) g q A c B d :=
 ⟨h.k.setW hne x y, h.f.setW x y, h.s.setC k x y, h.t.setC k x y⟩
end
def IvRes (r : Int × Int × Int) (w : World) : Ending → World → Prop := fun e w' => e = .returned (.tuple #[.agg #[.int .i64 r.1, .int .i64 r.2.1], .int .i64 r.2.2]) ∧ Below w.heap.size w w'
structure SO (w X : World) (gr : Nat) (q : Rat) (A : Option Addr) (c : Nat) (B : Option Addr) (d : Nat) (r : Int) (A1 : Option Addr) (c1 : Nat) : Prop where
 x : BxQ X w.heap.size q A c B d
 o : BlkV X (w.heap.size + 1) 41 #[.int .i64 0, .int .i64 0]
 r : BxW X gr r A1 c1
 hg : w.heap.size + 1 < gr
 hb : Below w.heap.size w X
section
variable {w X V : World} {gr : Nat} {q : Rat} {A B A1 A2 : Option Addr} {c d c1 c2 : Nat} {r z : Int}
theorem SO.call (h : SO w X gr q A c B d r A1 c1) (hb : Below X.heap.size X V) : SO w V gr q A c B d r A1 c1 := ⟨h.x.keep hb, h.o.keep hb, h.r.keep hb, h.hg, q0a h.hb hb⟩
theorem SO.put (h : SO w X gr q A c B d r A1 c1) (s : Sl X A2 (wOf z).2 c2) : SO w ((X.setCell ⟨gr, 0, none⟩ (.bool (wOf z).1)).setCell ⟨gr, 1, none⟩ (.slice A2 (wOf z).2.length c2)) gr q A c B d z A2 c2 :=
 ⟨h.x.farW h.r.k (by have := h.hg; omega) _ _, (h.o.far (p := ⟨gr, 0, none⟩) (by have := h.hg; show w.heap.size + 1 ≠ gr; omega) _).far (p := ⟨gr, 1, none⟩) (by have := h.hg; show w.heap.size + 1 ≠ gr; omega) _, h.r.put s, h.hg, q0g h.hb (by have := h.hg; omega) _ _⟩
theorem SO.cells (h : SO w X gr q A c B d r A1 c1) : X.cell? ⟨w.heap.size, 0, none⟩ = some (.bool (frQ q).1.1) ∧ X.cell? ⟨w.heap.size, 1, none⟩ = some (.slice A (frQ q).1.2.length c) ∧ X.cell? ⟨w.heap.size, 2, none⟩ = some (.bool (frQ q).2.1) ∧ X.cell? ⟨w.heap.size, 3, none⟩ = some (.slice B (frQ q).2.2.length d) ∧
  X.cell? ⟨w.heap.size + 1, 0, none⟩ = some (.int .i64 0) ∧ X.cell? ⟨w.heap.size + 1, 1, none⟩ = some (.int .i64 0) ∧ X.frozen? ⟨w.heap.size + 1, 0, none⟩ = false ∧ X.frozen? ⟨w.heap.size + 1, 1, none⟩ = false ∧
  X.cell? ⟨gr, 0, none⟩ = some (.bool (wOf r).1) ∧ X.cell? ⟨gr, 1, none⟩ = some (.slice A1 (wOf r).2.length c1) ∧ X.frozen? ⟨gr, 0, none⟩ = false ∧ X.frozen? ⟨gr, 1, none⟩ = false ∧ gr < X.heap.size :=
 ⟨h.x.k.1, h.x.k.2.1, h.x.k.2.2.1, h.x.k.2.2.2, h.o.at_ 0 rfl, h.o.at_ 1 rfl, h.o.frozen 0, h.o.frozen 1, h.r.k.1, h.r.k.2, h.r.f.1, h.r.f.2, h.r.lt⟩
theorem SO.fin (h : SO w X gr q A c B d r A1 c1) (x y : Value) : Below w.heap.size w ((X.setCell ⟨w.heap.size + 1, 0, none⟩ x).setCell ⟨w.heap.size + 1, 1, none⟩ y) := q0g h.hb (Nat.le_succ _) x y
end
end Go.Proofs.YtlekjkljajeodaaGreat
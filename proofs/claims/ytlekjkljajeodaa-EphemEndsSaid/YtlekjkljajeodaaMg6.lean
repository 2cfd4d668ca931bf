import Derived.Test.YtlekjkljajeodaaF3
import Derived.Test.YtlekjkljajeodaaFMath
import Derived.Deep.RegionHeld3
import Derived.Test.YtlekjkljajeodaaMg5
/- Walks: frac.Floor, Round. -/
namespace Go.Proofs.Ytlekjkljajeodaa
open Go.RowKit
attribute [local go_sem ↓] Go.wp_at_zero Go.wp_at_succ
theorem C1.new {w : World} {g : Nat} {v : Value} (h : C1 w g v) (u : Value) : C1 (w.setCell ⟨g, 0, none⟩ u) g u := ⟨World.cell?_setCell_same _ _ _ h.1, (World.frozen?_setCell _ _ _ _).trans h.2⟩

theorem C1.set1 {w : World} {g g' : Nat} {v : Value} (h : C1 w g v) (hne : g ≠ g') (u : Value) : C1 (w.setCell ⟨g', 0, none⟩ u) g v := ⟨(World.cell?_setCell_other _ _ _ _ (by intro e; exact hne (congrArg Addr.block e).symm)).trans h.1, (World.frozen?_setCell _ _ _ _).trans h.2⟩

theorem Cf.set1 {w : World} {g g' : Nat} {n1 n2 : Bool} {A1 A2 : Option Addr} {m1 c1 m2 c2 : Nat} (h : Cf w g n1 A1 m1 c1 n2 A2 m2 c2) (hne : g ≠ g') (u : Value) : Cf (w.setCell ⟨g', 0, none⟩ u) g n1 A1 m1 c1 n2 A2 m2 c2 := by
  have k : ∀ i, (w.setCell ⟨g', 0, none⟩ u).cell? ⟨g, i, none⟩ = w.cell? ⟨g, i, none⟩ := fun i => World.cell?_setCell_other _ _ _ _ (by intro e; exact hne (congrArg Addr.block e).symm)
  exact ⟨(k 0).trans h.1, (k 1).trans h.2.1, (k 2).trans h.2.2.1, (k 3).trans h.2.2.2⟩

theorem Fw.set1 {w : World} {g g' : Nat} (h : Fw w g) (u : Value) : Fw (w.setCell ⟨g', 0, none⟩ u) g := ⟨(World.frozen?_setCell _ _ _ _).trans h.1, (World.frozen?_setCell _ _ _ _).trans h.2⟩

end Go.Proofs.Ytlekjkljajeodaa

/- Walks: helpers of the laws of fractions. -/
namespace Go.Proofs.Ytlekjkljajeodaa
open Go.RowKit
attribute [local go_sem ↓] Go.wp_at_zero Go.wp_at_succ
theorem part_end {r : (Bool × List Nat) × (Bool × List Nat)} {w w3 : World} {g c c' : Nat} {A A' : Option Addr} {n1 n2 : Bool} {A1 A2 : Option Addr} {m1 c1 m2 c2 : Nat} (hs : Sl w3 A r.1.2 c) (hs' : Sl w3 A' r.2.2 c') (q : Cf w3 g n1 A1 m1 c1 n2 A2 m2 c2) (hb : Below w.heap.size w w3) (hg : w.heap.size ≤ g) (x y z u : Value) (o : Obj) :
    FRes1 r w (.returned (.agg #[.bool r.1.1, .slice A r.1.2.length c, .bool r.2.1, .slice A' r.2.2.length c'])) (((((w3.setCell ⟨g, 0, none⟩ x).setCell ⟨g, 1, none⟩ y).setCell ⟨g, 2, none⟩ z).setCell ⟨g, 3, none⟩ u).alloc o) :=
  ⟨A, c, A', c', rfl, (hs.setF q _ _ _ _).alloc _, (hs'.setF q _ _ _ _).alloc _, (below_setF hb hg _ _ _ _).alloc (by have := hb.size; simp [World.setCell]; omega) _⟩

end Go.Proofs.Ytlekjkljajeodaa
/- The numbers of the chapter's examples (alive of the laws of fractions). No program in sight. -/
namespace Go.Proofs.Ytlekjkljajeodaa
open Go.Lib
end Go.Proofs.Ytlekjkljajeodaa

/- Boxes of fractions with their limbs, said of rational numbers. -/
namespace Go.Proofs.Ytlekjkljajeodaa
open Go.RowKit
/-- The box of a fraction, free to be written, and its limbs. -/
structure BxQ (w : World) (g : Nat) (q : Rat) (A : Option Addr) (c : Nat) (B : Option Addr) (d : Nat) : Prop where
  k : Cf w g (frQ q).1.1 A (frQ q).1.2.length c (frQ q).2.1 B (frQ q).2.2.length d
  f : Ff w g
  s : Sl w A (frQ q).1.2 c
  t : Sl w B (frQ q).2.2 d

section
variable {w w' : World} {g g' : Nat} {p q : Rat} {A B A' B' : Option Addr} {c d c' d' : Nat}
theorem BxQ.keep (h : BxQ w g q A c B d) (hb : Below w.heap.size w w') : BxQ w' g q A c B d := ⟨h.k.keep hb, h.f.keep h.k hb, h.s.below hb, h.t.below hb⟩

theorem BxQ.drew (h : BxQ w g q A c B d) : BxQ w.drew g q A c B d := ⟨h.k, h.f, h.s.drew, h.t.drew⟩

theorem BxQ.alloc (h : BxQ w g q A c B d) (o : Obj) : BxQ (w.alloc o) g q A c B d := h.keep (blw1 w o)

theorem BxQ.fresh (hg : g = w.heap.size) (s : Sl w A (frQ q).1.2 c) (t : Sl w B (frQ q).2.2 d) : BxQ (w.alloc (.cells #[.bool (frQ q).1.1, .slice A (frQ q).1.2.length c, .bool (frQ q).2.1, .slice B (frQ q).2.2.length d] 60)) g q A c B d :=
  ⟨Cf.fresh hg _ _ _ _ _ _ _ _ _, Ff.fresh hg _ _, s.alloc _, t.alloc _⟩

theorem BxQ.lt (h : BxQ w g q A c B d) : g < w.heap.size := lt_of_cell (a := ⟨g, 0, none⟩) h.k.1

theorem BxQ.far (h : BxQ w g q A c B d) {n1 n2 : Bool} {A1 A2 : Option Addr} {m1 c1 m2 c2 : Nat} (k : Cf w g' n1 A1 m1 c1 n2 A2 m2 c2) (hne : g ≠ g') (x y z u : Value) : BxQ (((((w).setCell ⟨g', 0, none⟩ (x)).setCell ⟨g', 1, none⟩ (y)).setCell ⟨g', 2, none⟩ (z)).setCell ⟨g', 3, none⟩ (u)) g q A c B d :=
  ⟨h.k.farF hne x y z u, h.f.putF x y z u, h.s.setF k x y z u, h.t.setF k x y z u⟩

theorem BxQ.put {n1 n2 : Bool} {A1 A2 : Option Addr} {m1 c1 m2 c2 : Nat} (k : Cf w g n1 A1 m1 c1 n2 A2 m2 c2) (f : Ff w g) (s : Sl w A (frQ q).1.2 c) (t : Sl w B (frQ q).2.2 d) : BxQ (((((w).setCell ⟨g, 0, none⟩ (.bool (frQ q).1.1)).setCell ⟨g, 1, none⟩ (.slice A (frQ q).1.2.length c)).setCell ⟨g, 2, none⟩ (.bool (frQ q).2.1)).setCell ⟨g, 3, none⟩ (.slice B (frQ q).2.2.length d)) g q A c B d :=
  ⟨k.newF, f.putF _ _ _ _, s.setF k _ _ _ _, t.setF k _ _ _ _⟩

theorem BxQ.below {a : World} {b : Nat} (hb : Below b a w) (hg : b ≤ g) (x y z u : Value) : Below b a (((((w).setCell ⟨g, 0, none⟩ (x)).setCell ⟨g, 1, none⟩ (y)).setCell ⟨g, 2, none⟩ (z)).setCell ⟨g, 3, none⟩ (u)) := below_setF hb hg x y z u

end
/-- What a function of two fractions hands back. -/
def F2Res (p q : Rat) (w : World) : Ending → World → Prop := fun e w' =>
  ∃ A1 c1 B1 d1 A2 c2 B2 d2, e = .returned (.tuple #[.agg #[.bool (frQ p).1.1, .slice A1 (frQ p).1.2.length c1, .bool (frQ p).2.1, .slice B1 (frQ p).2.2.length d1], .agg #[.bool (frQ q).1.1, .slice A2 (frQ q).1.2.length c2, .bool (frQ q).2.1, .slice B2 (frQ q).2.2.length d2]]) ∧ Sl w' A1 (frQ p).1.2 c1 ∧ Sl w' B1 (frQ p).2.2 d1 ∧ Sl w' A2 (frQ q).1.2 c2 ∧ Sl w' B2 (frQ q).2.2 d2 ∧ Below w.heap.size w w'

/-- The boxes in clenshaw: of the doubled argument, of the two numbers. -/
structure CL (w X : World) (y p q : Rat) (A : Option Addr) (c : Nat) (B : Option Addr) (d : Nat) (A1 : Option Addr) (c1 : Nat) (B1 : Option Addr) (d1 : Nat) (A2 : Option Addr) (c2 : Nat) (B2 : Option Addr) (d2 : Nat) : Prop where
  x : BxQ X w.heap.size y A c B d
  u : BxQ X (w.heap.size + 1) p A1 c1 B1 d1
  v : BxQ X (w.heap.size + 2) q A2 c2 B2 d2
  hb : Below w.heap.size w X

section
variable {w X V : World} {y p q r : Rat} {A B A1 B1 A2 B2 A3 B3 : Option Addr} {c d c1 d1 c2 d2 c3 d3 : Nat}
theorem CL.held (h : CL w X y p q A c B d A1 c1 B1 d1 A2 c2 B2 d2) : X.cell? ⟨w.heap.size, 0, none⟩ = some (.bool (frQ y).1.1) ∧ X.cell? ⟨w.heap.size, 1, none⟩ = some (.slice A (frQ y).1.2.length c) ∧ X.cell? ⟨w.heap.size, 2, none⟩ = some (.bool (frQ y).2.1) ∧ X.cell? ⟨w.heap.size, 3, none⟩ = some (.slice B (frQ y).2.2.length d) ∧ X.cell? ⟨w.heap.size + 1, 0, none⟩ = some (.bool (frQ p).1.1) ∧ X.cell? ⟨w.heap.size + 1, 1, none⟩ = some (.slice A1 (frQ p).1.2.length c1) ∧ X.cell? ⟨w.heap.size + 1, 2, none⟩ = some (.bool (frQ p).2.1) ∧ X.cell? ⟨w.heap.size + 1, 3, none⟩ = some (.slice B1 (frQ p).2.2.length d1) ∧ X.cell? ⟨w.heap.size + 2, 0, none⟩ = some (.bool (frQ q).1.1) ∧ X.cell? ⟨w.heap.size + 2, 1, none⟩ = some (.slice A2 (frQ q).1.2.length c2) ∧ X.cell? ⟨w.heap.size + 2, 2, none⟩ = some (.bool (frQ q).2.1) ∧ X.cell? ⟨w.heap.size + 2, 3, none⟩ = some (.slice B2 (frQ q).2.2.length d2) := ⟨h.x.k.1, h.x.k.2.1, h.x.k.2.2.1, h.x.k.2.2.2, h.u.k.1, h.u.k.2.1, h.u.k.2.2.1, h.u.k.2.2.2, h.v.k.1, h.v.k.2.1, h.v.k.2.2.1, h.v.k.2.2.2⟩

theorem CL.call (h : CL w X y p q A c B d A1 c1 B1 d1 A2 c2 B2 d2) (hb : Below X.heap.size X V) : CL w V y p q A c B d A1 c1 B1 d1 A2 c2 B2 d2 := ⟨h.x.keep hb, h.u.keep hb, h.v.keep hb, below_mono h.hb hb⟩

theorem CL.drew (h : CL w X y p q A c B d A1 c1 B1 d1 A2 c2 B2 d2) : CL w X.drew y p q A c B d A1 c1 B1 d1 A2 c2 B2 d2 := ⟨h.x.drew, h.u.drew, h.v.drew, h.hb.drew⟩

theorem CL.cells (h : CL w X y p q A c B d A1 c1 B1 d1 A2 c2 B2 d2) : X.cell? ⟨w.heap.size, 0, none⟩ = some (.bool (frQ y).1.1) ∧ X.cell? ⟨w.heap.size, 1, none⟩ = some (.slice A (frQ y).1.2.length c) ∧ X.cell? ⟨w.heap.size, 2, none⟩ = some (.bool (frQ y).2.1) ∧ X.cell? ⟨w.heap.size, 3, none⟩ = some (.slice B (frQ y).2.2.length d) ∧ X.cell? ⟨w.heap.size + 1, 0, none⟩ = some (.bool (frQ p).1.1) ∧ X.cell? ⟨w.heap.size + 1, 1, none⟩ = some (.slice A1 (frQ p).1.2.length c1) ∧ X.cell? ⟨w.heap.size + 1, 2, none⟩ = some (.bool (frQ p).2.1) ∧ X.cell? ⟨w.heap.size + 1, 3, none⟩ = some (.slice B1 (frQ p).2.2.length d1) ∧ X.cell? ⟨w.heap.size + 2, 0, none⟩ = some (.bool (frQ q).1.1) ∧ X.cell? ⟨w.heap.size + 2, 1, none⟩ = some (.slice A2 (frQ q).1.2.length c2) ∧ X.cell? ⟨w.heap.size + 2, 2, none⟩ = some (.bool (frQ q).2.1) ∧ X.cell? ⟨w.heap.size + 2, 3, none⟩ = some (.slice B2 (frQ q).2.2.length d2) ∧ X.frozen? ⟨w.heap.size + 1, 0, none⟩ = false ∧ X.frozen? ⟨w.heap.size + 1, 1, none⟩ = false ∧ X.frozen? ⟨w.heap.size + 1, 2, none⟩ = false ∧ X.frozen? ⟨w.heap.size + 1, 3, none⟩ = false ∧ X.frozen? ⟨w.heap.size + 2, 0, none⟩ = false ∧ X.frozen? ⟨w.heap.size + 2, 1, none⟩ = false ∧ X.frozen? ⟨w.heap.size + 2, 2, none⟩ = false ∧ X.frozen? ⟨w.heap.size + 2, 3, none⟩ = false := ⟨h.x.k.1, h.x.k.2.1, h.x.k.2.2.1, h.x.k.2.2.2, h.u.k.1, h.u.k.2.1, h.u.k.2.2.1, h.u.k.2.2.2, h.v.k.1, h.v.k.2.1, h.v.k.2.2.1, h.v.k.2.2.2, h.u.f.1, h.u.f.2.1, h.u.f.2.2.1, h.u.f.2.2.2, h.v.f.1, h.v.f.2.1, h.v.f.2.2.1, h.v.f.2.2.2⟩

/-- Both numbers are written: the first anew, the second becomes what the first was. -/
theorem CL.step (h : CL w X y p q A c B d A1 c1 B1 d1 A2 c2 B2 d2) (s : Sl X A3 (frQ r).1.2 c3) (t : Sl X B3 (frQ r).2.2 d3) :
    CL w (((((((((X).setCell ⟨w.heap.size + 1, 0, none⟩ (.bool (frQ r).1.1)).setCell ⟨w.heap.size + 1, 1, none⟩ (.slice A3 (frQ r).1.2.length c3)).setCell ⟨w.heap.size + 1, 2, none⟩ (.bool (frQ r).2.1)).setCell ⟨w.heap.size + 1, 3, none⟩ (.slice B3 (frQ r).2.2.length d3)).setCell ⟨w.heap.size + 2, 0, none⟩ (.bool (frQ p).1.1)).setCell ⟨w.heap.size + 2, 1, none⟩ (.slice A1 (frQ p).1.2.length c1)).setCell ⟨w.heap.size + 2, 2, none⟩ (.bool (frQ p).2.1)).setCell ⟨w.heap.size + 2, 3, none⟩ (.slice B1 (frQ p).2.2.length d1)) y r p A c B d A3 c3 B3 d3 A1 c1 B1 d1 :=
  ⟨(h.x.far h.u.k (by omega) _ _ _ _).far (h.v.far h.u.k (by omega) _ _ _ _).k (by omega) _ _ _ _, (BxQ.put h.u.k h.u.f s t).far (h.v.far h.u.k (by omega) _ _ _ _).k (by omega) _ _ _ _,
    BxQ.put (h.v.far h.u.k (by omega) _ _ _ _).k (h.v.far h.u.k (by omega) _ _ _ _).f (h.u.s.setF h.u.k _ _ _ _) (h.u.t.setF h.u.k _ _ _ _), BxQ.below (BxQ.below h.hb (by omega) _ _ _ _) (by omega) _ _ _ _⟩

/-- .. the end: both are written as they are. -/
theorem CL.same (h : CL w X y p q A c B d A1 c1 B1 d1 A2 c2 B2 d2) :
    CL w (((((((((X).setCell ⟨w.heap.size + 1, 0, none⟩ (.bool (frQ p).1.1)).setCell ⟨w.heap.size + 1, 1, none⟩ (.slice A1 (frQ p).1.2.length c1)).setCell ⟨w.heap.size + 1, 2, none⟩ (.bool (frQ p).2.1)).setCell ⟨w.heap.size + 1, 3, none⟩ (.slice B1 (frQ p).2.2.length d1)).setCell ⟨w.heap.size + 2, 0, none⟩ (.bool (frQ q).1.1)).setCell ⟨w.heap.size + 2, 1, none⟩ (.slice A2 (frQ q).1.2.length c2)).setCell ⟨w.heap.size + 2, 2, none⟩ (.bool (frQ q).2.1)).setCell ⟨w.heap.size + 2, 3, none⟩ (.slice B2 (frQ q).2.2.length d2)) y p q A c B d A1 c1 B1 d1 A2 c2 B2 d2 :=
  ⟨(h.x.far h.u.k (by omega) _ _ _ _).far (h.v.far h.u.k (by omega) _ _ _ _).k (by omega) _ _ _ _, (BxQ.put h.u.k h.u.f h.u.s h.u.t).far (h.v.far h.u.k (by omega) _ _ _ _).k (by omega) _ _ _ _,
    BxQ.put (h.v.far h.u.k (by omega) _ _ _ _).k (h.v.far h.u.k (by omega) _ _ _ _).f (h.v.s.setF h.u.k _ _ _ _) (h.v.t.setF h.u.k _ _ _ _), BxQ.below (BxQ.below h.hb (by omega) _ _ _ _) (by omega) _ _ _ _⟩

theorem CL.init (k : BxQ X w.heap.size y A c B d) (ku : Cf X (w.heap.size + 1) false none 0 0 false none 0 0) (fu : Ff X (w.heap.size + 1)) (kv : Cf X (w.heap.size + 2) false none 0 0 false none 0 0) (fv : Ff X (w.heap.size + 2)) (hb : Below w.heap.size w X)
    (s1 : Sl X A1 (frQ p).1.2 c1) (t1 : Sl X B1 (frQ p).2.2 d1) (s2 : Sl X A2 (frQ q).1.2 c2) (t2 : Sl X B2 (frQ q).2.2 d2) :
    CL w (((((((((X).setCell ⟨w.heap.size + 1, 0, none⟩ (.bool (frQ p).1.1)).setCell ⟨w.heap.size + 1, 1, none⟩ (.slice A1 (frQ p).1.2.length c1)).setCell ⟨w.heap.size + 1, 2, none⟩ (.bool (frQ p).2.1)).setCell ⟨w.heap.size + 1, 3, none⟩ (.slice B1 (frQ p).2.2.length d1)).setCell ⟨w.heap.size + 2, 0, none⟩ (.bool (frQ q).1.1)).setCell ⟨w.heap.size + 2, 1, none⟩ (.slice A2 (frQ q).1.2.length c2)).setCell ⟨w.heap.size + 2, 2, none⟩ (.bool (frQ q).2.1)).setCell ⟨w.heap.size + 2, 3, none⟩ (.slice B2 (frQ q).2.2.length d2)) y p q A c B d A1 c1 B1 d1 A2 c2 B2 d2 :=
  ⟨(k.far ku (by omega) _ _ _ _).far (kv.farF (by omega) _ _ _ _) (by omega) _ _ _ _, (BxQ.put ku fu s1 t1).far (kv.farF (by omega) _ _ _ _) (by omega) _ _ _ _,
    BxQ.put (kv.farF (by omega) _ _ _ _) (fv.putF _ _ _ _) (s2.setF ku _ _ _ _) (t2.setF ku _ _ _ _), BxQ.below (BxQ.below hb (by omega) _ _ _ _) (by omega) _ _ _ _⟩

theorem CL.res (h : CL w X y p q A c B d A1 c1 B1 d1 A2 c2 B2 d2) : F2Res p q w (.returned (.tuple #[.agg #[.bool (frQ p).1.1, .slice A1 (frQ p).1.2.length c1, .bool (frQ p).2.1, .slice B1 (frQ p).2.2.length d1], .agg #[.bool (frQ q).1.1, .slice A2 (frQ q).1.2.length c2, .bool (frQ q).2.1, .slice B2 (frQ q).2.2.length d2]])) X :=
  ⟨A1, c1, B1, d1, A2, c2, B2, d2, rfl, h.u.s, h.u.t, h.v.s, h.v.t, h.hb⟩

end
end Go.Proofs.Ytlekjkljajeodaa

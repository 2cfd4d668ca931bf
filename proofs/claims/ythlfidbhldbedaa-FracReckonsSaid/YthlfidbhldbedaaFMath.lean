/- Fractions in plain arithmetic: the valid form of the quotient of two whole numbers. No program in sight. -/
import Derived.Test.YthlfidbhldbedaaMathZ
import Derived.Test.YthlfidbhldbedaaMem
namespace Go.Proofs.Ythlfidbhldbedaa
/-- A fraction is not valid. -/
def badF (n1 : Bool) (l1 : List Nat) (n2 : Bool) (l2 : List Nat) : Bool :=
  badL n1 l1 || badL n2 l2 || n2 || decide (l2.length = 0) || !decide (Nat.gcd (val l1) (val l2) = 1)

def chkF (n1 : Bool) (l1 : List Nat) (n2 : Bool) (l2 : List Nat) : Int := if badF n1 l1 n2 l2 then 8 else 0

/-- The greatest common divisor with the sign of the second number. -/
def sgZ (x y : Int) : Int := if y < 0 then -(Int.gcd x y : Int) else (Int.gcd x y : Int)

/-- The valid form of x / y. -/
def redZ (x y : Int) : (Bool × List Nat) × (Bool × List Nat) := (wOf (x.fdiv (sgZ x y)), wOf (y.fdiv (sgZ x y)))

def zF : (Bool × List Nat) × (Bool × List Nat) := ((false, []), (false, []))

def fitB (z : Int) : Bool := decide ((limbs z.natAbs).length ≤ 4096)

theorem fitB_iff {z : Int} : fitB z = true ↔ fitZ z := by unfold fitB fitZ; exact decide_eq_true_iff

/-- Sign and limbs of both numbers are a valid form of x / y. -/
structure VF (n1 : Bool) (l1 : List Nat) (n2 : Bool) (l2 : List Nat) (x y : Int) : Prop where
  num : VZ n1 l1 x
  den : VZ n2 l2 y
  pos : 0 < y
  one : Int.gcd x y = 1

section
variable {n1 n2 : Bool} {l1 l2 : List Nat} {x y : Int}
theorem VF.good (h : VF n1 l1 n2 l2 x y) : badF n1 l1 n2 l2 = false := by
  have hn : n2 = false := by rw [h.den.neg_eq]; exact decide_eq_false (by have := h.pos; omega)
  have hl : l2.length ≠ 0 := fun e => by have := h.den.zero.1 e; have := h.pos; omega
  have hg : Nat.gcd (val l1) (val l2) = 1 := by rw [h.num.val_eq, h.den.val_eq]; exact h.one
  unfold badF
  simp only [Bool.or_eq_false_iff, decide_eq_false_iff_not, Bool.not_eq_false', decide_eq_true_eq]
  exact ⟨⟨⟨⟨h.num.good, h.den.good⟩, hn⟩, hl⟩, hg⟩

theorem vf_of (h1 : Lim l1) (h2 : Lim l2) (h : badF n1 l1 n2 l2 = false) : VF n1 l1 n2 l2 (zv n1 l1) (zv n2 l2) := by
  unfold badF at h
  simp only [Bool.or_eq_false_iff, decide_eq_false_iff_not, Bool.not_eq_false', decide_eq_true_eq] at h
  obtain ⟨⟨⟨⟨a, b⟩, c⟩, d⟩, e⟩ := h
  have v1 := vz_of h1 a
  have v2 := vz_of h2 b
  refine ⟨v1, v2, ?_, ?_⟩
  · have h0 := mt v2.zero.2 d
    have := of_decide_eq_false (v2.neg_eq.symm.trans c)
    omega
  · rw [← e, v1.val_eq, v2.val_eq]; rfl

theorem VF.chk (h : VF n1 l1 n2 l2 x y) : chkF n1 l1 n2 l2 = 0 := by unfold chkF; rw [h.good]; rfl

theorem sg_abs (x y : Int) : (sgZ x y).natAbs = Int.gcd x y := by unfold sgZ; split <;> simp

theorem sg_ne (hy : y ≠ 0) : sgZ x y ≠ 0 := fun e => by
  have := sg_abs x y
  rw [e] at this
  have h0 := Int.gcd_eq_zero_iff.1 this.symm
  exact hy h0.2

theorem fit_sg (h1 : fitZ x) (h2 : fitZ y) : fitZ (sgZ x y) := by
  have h := fit_gcd h1 h2
  unfold fitZ at *
  rw [sg_abs]
  simpa using h

end
end Go.Proofs.Ythlfidbhldbedaa
/- Sums, products, quotients of fractions in plain arithmetic. No program in sight. -/
namespace Go.Proofs.Ythlfidbhldbedaa
/-- The fraction of two numbers, or ErrRange: the numbers that must fit, the quotient's. -/
def outF (fits : Bool) (x y : Int) : ((Bool × List Nat) × (Bool × List Nat)) × Int := if fits then (redZ x y, 0) else (zF, 16)

def addV (x1 y1 x2 y2 : Int) : ((Bool × List Nat) × (Bool × List Nat)) × Int := outF (fitB (x1 * y2) && fitB (x2 * y1) && fitB (x1 * y2 + x2 * y1) && fitB (y1 * y2)) (x1 * y2 + x2 * y1) (y1 * y2)

def subV (x1 y1 x2 y2 : Int) : ((Bool × List Nat) × (Bool × List Nat)) × Int := outF (fitB (x1 * y2) && fitB (x2 * y1) && fitB (x1 * y2 - x2 * y1) && fitB (y1 * y2)) (x1 * y2 - x2 * y1) (y1 * y2)

def mulV (x1 y1 x2 y2 : Int) : ((Bool × List Nat) × (Bool × List Nat)) × Int := outF (fitB (x1 * x2) && fitB (y1 * y2)) (x1 * x2) (y1 * y2)

def divV (x1 y1 x2 y2 : Int) : ((Bool × List Nat) × (Bool × List Nat)) × Int := if x2 = 0 then (zF, 18) else outF (fitB (x1 * y2) && fitB (y1 * x2)) (x1 * y2) (y1 * x2)

def cmpV (x1 y1 x2 y2 : Int) : Int × Int := if fitB (x1 * y2) && fitB (x2 * y1) then (cmpZ (x1 * y2) (x2 * y1), 0) else (0, 16)

section
variable (n1 : Bool) (l1 : List Nat) (n2 : Bool) (l2 : List Nat) (n3 : Bool) (l3 : List Nat) (n4 : Bool) (l4 : List Nat)
def bothF (V : Int → Int → Int → Int → ((Bool × List Nat) × (Bool × List Nat)) × Int) : ((Bool × List Nat) × (Bool × List Nat)) × Int :=
  if badF n1 l1 n2 l2 || badF n3 l3 n4 l4 then (zF, 8) else V (zv n1 l1) (zv n2 l2) (zv n3 l3) (zv n4 l4)

def cmpF : Int × Int := if badF n1 l1 n2 l2 || badF n3 l3 n4 l4 then (0, 8) else cmpV (zv n1 l1) (zv n2 l2) (zv n3 l3) (zv n4 l4)

def negF : ((Bool × List Nat) × (Bool × List Nat)) × Int := if badF n1 l1 n2 l2 then (zF, 8) else ((wOf (-(zv n1 l1)), (n2, l2)), 0)

end
section
variable {n1 n2 n3 n4 : Bool} {l1 l2 l3 l4 : List Nat} {x y x' y' : Int}
theorem both_good {V : Int → Int → Int → Int → ((Bool × List Nat) × (Bool × List Nat)) × Int} (h : VF n1 l1 n2 l2 x y) (k : VF n3 l3 n4 l4 x' y') : bothF n1 l1 n2 l2 n3 l3 n4 l4 V = V x y x' y' := by
  unfold bothF
  rw [h.good, k.good, if_neg (by simp), h.num.zv_eq, h.den.zv_eq, k.num.zv_eq, k.den.zv_eq]

theorem cmpF_good (h : VF n1 l1 n2 l2 x y) (k : VF n3 l3 n4 l4 x' y') : cmpF n1 l1 n2 l2 n3 l3 n4 l4 = cmpV x y x' y' := by
  unfold cmpF
  rw [h.good, k.good, if_neg (by simp), h.num.zv_eq, h.den.zv_eq, k.num.zv_eq, k.den.zv_eq]

theorem negF_good (h : VF n1 l1 n2 l2 x y) : negF n1 l1 n2 l2 = ((wOf (-x), (n2, l2)), 0) := by
  unfold negF
  rw [h.good, if_neg (by simp), h.num.zv_eq]

end
end Go.Proofs.Ythlfidbhldbedaa
/- What memory holds of fractions: four cells of a block; what the functions of fractions hand back. -/
namespace Go.Proofs.Ythlfidbhldbedaa
open Go.RowKit
/-- A fraction in a block's four cells. -/
def Cf (w : World) (g : Nat) (n1 : Bool) (A1 : Option Addr) (m1 c1 : Nat) (n2 : Bool) (A2 : Option Addr) (m2 c2 : Nat) : Prop :=
  w.cell? ⟨g, 0, none⟩ = some (.bool n1) ∧ w.cell? ⟨g, 1, none⟩ = some (.slice A1 m1 c1) ∧ w.cell? ⟨g, 2, none⟩ = some (.bool n2) ∧ w.cell? ⟨g, 3, none⟩ = some (.slice A2 m2 c2)

section
variable {w w' : World} {g : Nat} {n1 n2 : Bool} {A1 A2 : Option Addr} {m1 c1 m2 c2 : Nat}
theorem Cf.keep (h : Cf w g n1 A1 m1 c1 n2 A2 m2 c2) (hb : Below w.heap.size w w') : Cf w' g n1 A1 m1 c1 n2 A2 m2 c2 := keep4 hb h

theorem Cf.drew (h : Cf w g n1 A1 m1 c1 n2 A2 m2 c2) : Cf w.drew g n1 A1 m1 c1 n2 A2 m2 c2 := h

theorem Cf.fresh (hg : g = w.heap.size) (n1 : Bool) (A1 : Option Addr) (m1 c1 : Nat) (n2 : Bool) (A2 : Option Addr) (m2 c2 : Nat) (t : TypeId) :
    Cf (w.alloc (.cells #[.bool n1, .slice A1 m1 c1, .bool n2, .slice A2 m2 c2] t)) g n1 A1 m1 c1 n2 A2 m2 c2 := by
  subst hg
  exact ⟨by simp, by simp, by simp, by simp⟩

theorem Cf.setW {g' : Nat} (h : Cf w g n1 A1 m1 c1 n2 A2 m2 c2) (hne : g ≠ g') (x y : Value) : Cf ((w.setCell ⟨g', 0, none⟩ x).setCell ⟨g', 1, none⟩ y) g n1 A1 m1 c1 n2 A2 m2 c2 :=
  ⟨(cell_setW hne x y).trans h.1, (cell_setW hne x y).trans h.2.1, (cell_setW hne x y).trans h.2.2.1, (cell_setW hne x y).trans h.2.2.2⟩

/-- None of the four is frozen. -/
def Ff (w : World) (g : Nat) : Prop := w.frozen? ⟨g, 0, none⟩ = false ∧ w.frozen? ⟨g, 1, none⟩ = false ∧ w.frozen? ⟨g, 2, none⟩ = false ∧ w.frozen? ⟨g, 3, none⟩ = false

theorem Ff.keep (f : Ff w g) (h : Cf w g n1 A1 m1 c1 n2 A2 m2 c2) (hb : Below w.heap.size w w') : Ff w' g :=
  ⟨kept_frozen hb h.1 f.1, kept_frozen hb h.2.1 f.2.1, kept_frozen hb h.2.2.1 f.2.2.1, kept_frozen hb h.2.2.2 f.2.2.2⟩

theorem Ff.fresh (hg : g = w.heap.size) (cs : Array Value) (t : TypeId) : Ff (w.alloc (.cells cs t)) g := by
  subst hg
  exact ⟨by simp, by simp, by simp, by simp⟩

theorem Ff.drew (f : Ff w g) : Ff w.drew g := f

/-- One cell, known and not frozen. -/
def C1 (w : World) (g : Nat) (v : Value) : Prop := w.cell? ⟨g, 0, none⟩ = some v ∧ w.frozen? ⟨g, 0, none⟩ = false

theorem C1.keep {v : Value} (h : C1 w g v) (hb : Below w.heap.size w w') : C1 w' g v := ⟨kept_cell hb h.1, kept_frozen hb h.1 h.2⟩

theorem C1.fresh (hg : g = w.heap.size) (v : Value) (t : TypeId) : C1 (w.alloc (.cells #[v] t)) g v := by
  subst hg
  exact ⟨by simp, by simp⟩

end
theorem Ff.setW {w : World} {g g' : Nat} (f : Ff w g) (x y : Value) : Ff ((w.setCell ⟨g', 0, none⟩ x).setCell ⟨g', 1, none⟩ y) g := by
  obtain ⟨h0, h1, h2, h3⟩ := f
  exact ⟨by rw [World.frozen?_setCell, World.frozen?_setCell]; exact h0, by rw [World.frozen?_setCell, World.frozen?_setCell]; exact h1, by rw [World.frozen?_setCell, World.frozen?_setCell]; exact h2, by rw [World.frozen?_setCell, World.frozen?_setCell]; exact h3⟩

theorem C1.setW {w : World} {g g' : Nat} {v : Value} (h : C1 w g v) (hne : g ≠ g') (x y : Value) : C1 ((w.setCell ⟨g', 0, none⟩ x).setCell ⟨g', 1, none⟩ y) g v :=
  ⟨(cell_setW hne x y).trans h.1, by rw [World.frozen?_setCell, World.frozen?_setCell]; exact h.2⟩

theorem Cw.set1 {w : World} {g g' : Nat} {n : Bool} {A : Option Addr} {m c : Nat} (h : Cw w g n A m c) (hne : g ≠ g') (x : Value) : Cw (w.setCell ⟨g', 0, none⟩ x) g n A m c :=
  ⟨(World.cell?_setCell_other _ _ _ _ (by intro e; exact hne (congrArg Addr.block e).symm)).trans h.1, (World.cell?_setCell_other _ _ _ _ (by intro e; exact hne (congrArg Addr.block e).symm)).trans h.2⟩

theorem Sl.set1' {w : World} {A : Option Addr} {l : List Nat} {c g : Nat} {k : IntKind} {z : Int} (h : Sl w A l c) (q : w.cell? ⟨g, 0, none⟩ = some (.int k z)) (hk : k ≠ .u32) (x : Value) : Sl (w.setCell ⟨g, 0, none⟩ x) A l c := by
  refine ⟨fun hl => ?_, h.lim, h.le, h.len⟩
  obtain ⟨b, o, e, hc⟩ := h.rd hl
  refine ⟨b, o, e, fun i hi => ?_⟩
  rw [World.cell?_setCell_other _ _ _ _ (fun he => ?_)]
  · exact hc i hi
  · have := hc i hi
    rw [← he, q] at this
    injection this with e1
    injection e1 with e2
    exact hk e2

/-- Four cells written: everything older stays. -/
theorem Sl.setF {w : World} {A : Option Addr} {l : List Nat} {c g : Nat} {n1 n2 : Bool} {A1 A2 : Option Addr} {m1 c1 m2 c2 : Nat} (h : Sl w A l c) (q : Cf w g n1 A1 m1 c1 n2 A2 m2 c2) (x y z u : Value) :
    Sl ((((w.setCell ⟨g, 0, none⟩ x).setCell ⟨g, 1, none⟩ y).setCell ⟨g, 2, none⟩ z).setCell ⟨g, 3, none⟩ u) A l c := by
  have h2 : ∀ (i : Nat) (w : World) (v v' : Value), w.cell? ⟨g, i, none⟩ = some v → (∀ n, v ≠ .int .u32 n) → Sl w A l c → Sl (w.setCell ⟨g, i, none⟩ v') A l c := fun i w v v' hq hv h => h.set hq hv v'
  refine h2 3 _ (.slice A2 m2 c2) _ ?_ (by intro n e; cases e) (h2 2 _ (.bool n2) _ ?_ (by intro n e; cases e) (h2 1 _ (.slice A1 m1 c1) _ ?_ (by intro n e; cases e) (h2 0 _ (.bool n1) _ q.1 (by intro n e; cases e) h)))
  · rw [World.cell?_setCell_other _ _ _ _ (by simp), World.cell?_setCell_other _ _ _ _ (by simp), World.cell?_setCell_other _ _ _ _ (by simp)]; exact q.2.2.2
  · rw [World.cell?_setCell_other _ _ _ _ (by simp), World.cell?_setCell_other _ _ _ _ (by simp)]; exact q.2.2.1
  · rw [World.cell?_setCell_other _ _ _ _ (by simp)]; exact q.2.1

theorem below_setF {B g : Nat} {a w : World} (h : Below B a w) (hg : B ≤ g) (x y z u : Value) :
    Below B a ((((w.setCell ⟨g, 0, none⟩ x).setCell ⟨g, 1, none⟩ y).setCell ⟨g, 2, none⟩ z).setCell ⟨g, 3, none⟩ u) :=
  (((h.setCell (p := ⟨g, 0, none⟩) hg x).setCell (p := ⟨g, 1, none⟩) hg y).setCell (p := ⟨g, 2, none⟩) hg z).setCell (p := ⟨g, 3, none⟩) hg u

/-- What hands back a fraction alone. -/
def FRes1 (r : (Bool × List Nat) × (Bool × List Nat)) (w : World) : Ending → World → Prop := fun e w' =>
  ∃ A c A' c', e = .returned (.agg #[.bool r.1.1, .slice A r.1.2.length c, .bool r.2.1, .slice A' r.2.2.length c']) ∧ Sl w' A r.1.2 c ∧ Sl w' A' r.2.2 c' ∧ Below w.heap.size w w'

/-- .. a fraction and an error. -/
def FRes (r : ((Bool × List Nat) × (Bool × List Nat)) × Int) (w : World) : Ending → World → Prop := fun e w' =>
  ∃ A c A' c', e = .returned (.tuple #[.agg #[.bool r.1.1.1, .slice A r.1.1.2.length c, .bool r.1.2.1, .slice A' r.1.2.2.length c'], .int .i64 r.2]) ∧ Sl w' A r.1.1.2 c ∧ Sl w' A' r.1.2.2 c' ∧ Below w.heap.size w w'

theorem fres1_store {r : (Bool × List Nat) × (Bool × List Nat)} {w w3 : World} {g c c' : Nat} {A A' : Option Addr} {n1 n2 : Bool} {A1 A2 : Option Addr} {m1 c1 m2 c2 : Nat} (hs : Sl w3 A r.1.2 c) (hs' : Sl w3 A' r.2.2 c') (q : Cf w3 g n1 A1 m1 c1 n2 A2 m2 c2) (hb : Below w.heap.size w w3) (hg : w.heap.size ≤ g) (x y z u : Value) :
    FRes1 r w (.returned (.agg #[.bool r.1.1, .slice A r.1.2.length c, .bool r.2.1, .slice A' r.2.2.length c'])) ((((w3.setCell ⟨g, 0, none⟩ x).setCell ⟨g, 1, none⟩ y).setCell ⟨g, 2, none⟩ z).setCell ⟨g, 3, none⟩ u) :=
  ⟨A, c, A', c', rfl, hs.setF q _ _ _ _, hs'.setF q _ _ _ _, below_setF hb hg _ _ _ _⟩

theorem FRes1.alloc {r : (Bool × List Nat) × (Bool × List Nat)} {w w' : World} {e : Ending} (h : FRes1 r w e w') (o : Obj) : FRes1 r w e (w'.alloc o) := by
  obtain ⟨A, c, A', c', rfl, h1, h2, hb⟩ := h
  exact ⟨A, c, A', c', rfl, h1.alloc o, h2.alloc o, below_mono hb (blw1 _ _)⟩

end Go.Proofs.Ythlfidbhldbedaa

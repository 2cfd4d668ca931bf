/- Memory, more: a number's two cells, kept and written. -/
import Derived.Test.YtejapkdhbpngbaaMem
namespace Go.Proofs.Ytejapkdhbpngbaa
open Go.RowKit

theorem kept_frozen {w w' : World} (hb : Below w.heap.size w w') {a : Addr} {v : Value} (h : w.cell? a = some v) (hf : w.frozen? a = false) : w'.frozen? a = false := (hb.frozen (lt_of_cell h)).trans hf
theorem cell_setW {w : World} {g h i : Nat} (hne : h ≠ g) (x y : Value) : ((w.setCell ⟨g, 0, none⟩ x).setCell ⟨g, 1, none⟩ y).cell? ⟨h, i, none⟩ = w.cell? ⟨h, i, none⟩ := by
  rw [World.cell?_setCell_other _ _ _ _ (fun e => hne (congrArg Addr.block e).symm), World.cell?_setCell_other _ _ _ _ (fun e => hne (congrArg Addr.block e).symm)]
/-- A number's two cells. -/
def Cw (w : World) (g : Nat) (n : Bool) (A : Option Addr) (m c : Nat) : Prop := w.cell? ⟨g, 0, none⟩ = some (.bool n) ∧ w.cell? ⟨g, 1, none⟩ = some (.slice A m c)
theorem Cw.keep {w w' : World} {g : Nat} {n : Bool} {A : Option Addr} {m c : Nat} (h : Cw w g n A m c) (hb : Below w.heap.size w w') : Cw w' g n A m c := ⟨kept_cell hb h.1, kept_cell hb h.2⟩
theorem Cw.setW {w : World} {g g' : Nat} {n : Bool} {A : Option Addr} {m c : Nat} (h : Cw w g n A m c) (hne : g ≠ g') (x y : Value) : Cw ((w.setCell ⟨g', 0, none⟩ x).setCell ⟨g', 1, none⟩ y) g n A m c := ⟨(cell_setW hne x y).trans h.1, (cell_setW hne x y).trans h.2⟩
theorem Cw.drew {w : World} {g : Nat} {n : Bool} {A : Option Addr} {m c : Nat} (h : Cw w g n A m c) : Cw w.drew g n A m c := h
/-- .. free to be written. -/
def Fw (w : World) (g : Nat) : Prop := w.frozen? ⟨g, 0, none⟩ = false ∧ w.frozen? ⟨g, 1, none⟩ = false
theorem Fw.drew {w : World} {g : Nat} (f : Fw w g) : Fw w.drew g := f
theorem Fw.keep {w w' : World} {g : Nat} {n : Bool} {A : Option Addr} {m c : Nat} (f : Fw w g) (h : Cw w g n A m c) (hb : Below w.heap.size w w') : Fw w' g := ⟨kept_frozen hb h.1 f.1, kept_frozen hb h.2 f.2⟩

theorem wres_store {r : (Bool × List Nat) × Int} {w w3 : World} {g c2 : Nat} {A2 : Option Addr} {n : Bool} {A : Option Addr} {m c : Nat} (hs : Sl w3 A2 r.1.2 c2) (hr : Cw w3 g n A m c) (hb : Below w.heap.size w w3) (hg : w.heap.size ≤ g) (x y : Value) :
    WRes r w (.returned (.tuple #[.agg #[.bool r.1.1, .slice A2 r.1.2.length c2], .int .i64 r.2])) ((w3.setCell ⟨g, 0, none⟩ x).setCell ⟨g, 1, none⟩ y) :=
  ⟨A2, c2, rfl, hs.setW hr.1 hr.2 _ _, below_setW hb hg _ _⟩

theorem wres1_store {r : Bool × List Nat} {w w3 : World} {g c2 : Nat} {A2 : Option Addr} {n : Bool} {A : Option Addr} {m c : Nat} (hs : Sl w3 A2 r.2 c2) (hr : Cw w3 g n A m c) (hb : Below w.heap.size w w3) (hg : w.heap.size ≤ g) (x y : Value) (o : Obj) :
    WRes1 r w (.returned (.agg #[.bool r.1, .slice A2 r.2.length c2])) (((w3.setCell ⟨g, 0, none⟩ x).setCell ⟨g, 1, none⟩ y).alloc o) :=
  ⟨A2, c2, rfl, (hs.setW hr.1 hr.2 _ _).alloc _, (below_setW hb hg _ _).alloc (by have := hb.size; simp [World.setCell]; omega) _⟩
theorem Rd.two' {w : World} {b : Nat} (hb : b = w.heap.size) (x y : Nat) (e : TypeId) : Rd (w.alloc (.cells #[.int .u32 (x : Nat), .int .u32 (y : Nat)] e)) (some ⟨b, 0, none⟩) [x, y] := hb ▸ Rd.two w x y e
theorem Rd.one' {w : World} {b : Nat} (hb : b = w.heap.size) (x : Nat) (e : TypeId) : Rd (w.alloc (.cells #[.int .u32 (x : Nat)] e)) (some ⟨b, 0, none⟩) [x] := hb ▸ Rd.one w x e

theorem Ow.drew {w : World} {base : Nat} {e : TypeId} {v : Value} {l : List Nat} (h : Ow w base e v l) : Ow w.drew base e v l := h
/-- 'append' at a step of a region that draws its order. -/
theorem step_app {P : Program} {w : World} {ops : Array Oper} {o : Oper} {a : Act} {K : Act → World → Prop} {Q : Exit → Act → World → Prop} {E : Prop} (hgd : o.guard = none) (s x : Operand) (t : TypeId)
    (ho : o.op = .call { callee := .builtin .append, args := #[s, x], argTypes := #[t, t] })
    (base : Nat) (e : TypeId) (i : TypeInfo) (ht : P.underlying t = some (.slice e)) (hi : P.info? e = some i) (hz : i.zero = some (.int .u32 0)) (hsize : i.size = 1) (hby : i.bytes = 4)
    (v : Value) (l : List Nat) (hs : a.eval s = v) (hown : Ow w base e v l) (A2 : Option Addr) (n2 : Nat) (l2 : List Nat) (c2 : Nat) (hx : a.eval x = .slice A2 n2 c2) (hn2 : l2.length = n2) (hr : Rd w A2 l2)
    (h63 : l.length + l2.length ≤ 35184372088832) (hbase : base ≤ w.heap.size)
    (h : ∀ A' c' w', Ow w' base e (.slice A' (l ++ l2).length c') (l ++ l2) → w.grownBy w' v.ownBlock →
      ((Value.slice A' (l ++ l2).length c').ownBlock = v.ownBlock ∨ (Value.slice A' (l ++ l2).length c').ownBlock = some w.heap.size) → K (a.put o.dst (.slice A' (l ++ l2).length c')) w') :
    if Region.wanted o (yielded ops a.tmps) = true then Oper.wp P o a w K Q else E := by
  have hw : Region.wanted o (yielded ops a.tmps) = true := by simp [Region.wanted, hgd]
  rw [if_pos hw]
  subst hn2
  obtain ⟨A', c', w', hrun, h2, h3, h4⟩ := run_app (P := P) w base t o.type e i ht hi hz hsize hby v l hown A2 l2 c2 hr h63 hbase
  unfold Oper.wp execOp
  simp only [ho, resolve, invoke, builtin, Sem.run_bind, Sem.run_pure, Result.andThen_ok, List.map_toArray, List.map_cons, List.map_nil, hs, hx, hrun]
  exact h A' c' w' h2 h3 h4

theorem below_drew3 (w : World) (o o2 o3 : Obj) : Below w.heap.size w (((w.alloc o).alloc o2).alloc o3).drew := (blw3 w o o2 o3).drew

theorem Cw.fresh {w : World} {g : Nat} (hg : g = w.heap.size) (n : Bool) (A : Option Addr) (m c : Nat) (t : TypeId) : Cw (w.alloc (.cells #[.bool n, .slice A m c] t)) g n A m c := by subst hg; exact ⟨by simp, by simp⟩

theorem keep2 {w w' : World} (hb : Below w.heap.size w w') {a1 a2 : Addr} {v1 v2 : Value} (h : w.cell? a1 = some v1 ∧ w.cell? a2 = some v2) : w'.cell? a1 = some v1 ∧ w'.cell? a2 = some v2 := ⟨kept_cell hb h.1, kept_cell hb h.2⟩
theorem keep4 {w w' : World} (hb : Below w.heap.size w w') {a1 a2 a3 a4 : Addr} {v1 v2 v3 v4 : Value} (h : w.cell? a1 = some v1 ∧ w.cell? a2 = some v2 ∧ w.cell? a3 = some v3 ∧ w.cell? a4 = some v4) :
    w'.cell? a1 = some v1 ∧ w'.cell? a2 = some v2 ∧ w'.cell? a3 = some v3 ∧ w'.cell? a4 = some v4 := ⟨kept_cell hb h.1, kept_cell hb h.2.1, kept_cell hb h.2.2.1, kept_cell hb h.2.2.2⟩
theorem keep6 {w w' : World} (hb : Below w.heap.size w w') {a1 a2 a3 a4 a5 a6 : Addr} {v1 v2 v3 v4 v5 v6 : Value} (h : w.cell? a1 = some v1 ∧ w.cell? a2 = some v2 ∧ w.cell? a3 = some v3 ∧ w.cell? a4 = some v4 ∧ w.cell? a5 = some v5 ∧ w.cell? a6 = some v6) :
    w'.cell? a1 = some v1 ∧ w'.cell? a2 = some v2 ∧ w'.cell? a3 = some v3 ∧ w'.cell? a4 = some v4 ∧ w'.cell? a5 = some v5 ∧ w'.cell? a6 = some v6 := ⟨kept_cell hb h.1, kept_cell hb h.2.1, kept_cell hb h.2.2.1, kept_cell hb h.2.2.2.1, kept_cell hb h.2.2.2.2.1, kept_cell hb h.2.2.2.2.2⟩

end Go.Proofs.Ytejapkdhbpngbaa

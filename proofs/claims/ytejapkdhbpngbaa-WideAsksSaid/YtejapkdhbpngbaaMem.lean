/- What memory holds: a slice of limbs, a block known whole; what is kept where only new blocks are made. No program in sight but the types' numbers. -/
import Derived.Test.YtejapkdhbpngbaaMath
import Derived.WalkKit
import Derived.Laws.OwnMore
import Derived.Deep.Draws
import Derived.Laws.Rows
import Derived.Lib.Hide
import Derived.Maps.AppendAt
import Derived.Deep.AppendLies
import Derived.OwnWalk
import Derived.Laws.MakeOwn
namespace Go.Proofs.Ytejapkdhbpngbaa
open Go.RowKit

/-- The cells of a slice of 32-bit numbers: those of the list. -/
def Rd (w : World) (A : Option Addr) (l : List Nat) : Prop :=
  0 < l.length → ∃ b o, A = some ⟨b, o, none⟩ ∧ ∀ i, i < l.length → w.cell? ⟨b, o + i, none⟩ = some (.int .u32 (l[i]?.getD 0 : Nat))

theorem lt_of_cell {w : World} {a : Addr} {v : Value} (h : w.cell? a = some v) : a.block < w.heap.size := by
  unfold World.cell? at h
  rcases Nat.lt_or_ge a.block w.heap.size with hl | hl
  · exact hl
  · rw [Array.getElem?_eq_none hl] at h; cases h
theorem kept_cell {w w' : World} (hb : Below w.heap.size w w') {a : Addr} {v : Value} (h : w.cell? a = some v) : w'.cell? a = some v := (hb.cell (lt_of_cell h)).trans h
theorem Rd.below {w w' : World} {A : Option Addr} {l : List Nat} (h : Rd w A l) (hb : Below w.heap.size w w') : Rd w' A l := fun hl => by
  obtain ⟨b, o, e, hc⟩ := h hl
  exact ⟨b, o, e, fun i hi => kept_cell hb (hc i hi)⟩
theorem Rd.alloc {w : World} {A : Option Addr} {l : List Nat} (h : Rd w A l) (o : Obj) : Rd (w.alloc o) A l := h.below ((Below.refl _ w).alloc (Nat.le_refl _) o)
theorem Rd.drew {w : World} {A : Option Addr} {l : List Nat} (h : Rd w A l) : Rd w.drew A l := h
theorem Rd.nil (w : World) (A : Option Addr) : Rd w A [] := fun h => by simp at h
theorem Rd.take {w : World} {A : Option Addr} {l : List Nat} (h : Rd w A l) (n : Nat) : Rd w A (l.take n) := fun hl => by
  have hn : 0 < l.length := by rw [List.length_take] at hl; omega
  obtain ⟨b, o, e, hc⟩ := h hn
  refine ⟨b, o, e, fun i hi => ?_⟩
  rw [List.length_take] at hi
  rw [List.getElem?_take_of_lt (by omega)]
  exact hc i (by omega)
theorem Rd.at_ {w : World} {A : Option Addr} {l : List Nat} (h : Rd w A l) {k : Nat} (hk : k < l.length) : ∃ b o, A = some ⟨b, o, none⟩ ∧ w.cell? ⟨b, o + k, none⟩ = some (.int .u32 (l[k]?.getD 0 : Nat)) := by
  obtain ⟨b, o, e, hc⟩ := h (by omega)
  exact ⟨b, o, e, hc k hk⟩

/-- A slice of limbs: its cells, each below 2^32, and its bounds. -/
structure Sl (w : World) (A : Option Addr) (l : List Nat) (c : Nat) : Prop where
  rd : Rd w A l
  lim : Lim l
  le : l.length ≤ c
  len : l.length ≤ 35184372088832
theorem Sl.below {w w' : World} {A : Option Addr} {l : List Nat} {c : Nat} (h : Sl w A l c) (hb : Below w.heap.size w w') : Sl w' A l c := ⟨h.rd.below hb, h.lim, h.le, h.len⟩
theorem Sl.alloc {w : World} {A : Option Addr} {l : List Nat} {c : Nat} (h : Sl w A l c) (o : Obj) : Sl (w.alloc o) A l c := ⟨h.rd.alloc o, h.lim, h.le, h.len⟩
theorem Sl.drew {w : World} {A : Option Addr} {l : List Nat} {c : Nat} (h : Sl w A l c) : Sl w.drew A l c := ⟨h.rd, h.lim, h.le, h.len⟩
theorem Sl.nil (w : World) (A : Option Addr) (c : Nat) : Sl w A [] c := ⟨Rd.nil _ _, lim_nil, Nat.zero_le _, Nat.zero_le _⟩

/-- A block of limbs known whole. -/
def Blk (w : World) (g : Nat) (t : TypeId) (l : List Nat) : Prop := w.heap[g]? = some (.cells (l.map fun x => Value.int .u32 (x : Nat)).toArray t (0, 0))
section
variable {w w' : World} {g : Nat} {t : TypeId} {l : List Nat}
theorem Blk.lt (h : Blk w g t l) : g < w.heap.size := lt_of_block h
theorem Blk.cell (h : Blk w g t l) {i : Nat} (hi : i < l.length) : w.cell? ⟨g, i, none⟩ = some (.int .u32 (l[i]?.getD 0 : Nat)) := by
  rw [cell_of_row w g i _ t (0, 0) h]
  simp [List.getElem?_eq_getElem hi]
theorem Blk.frozen (h : Blk w g t l) (i : Nat) : w.frozen? ⟨g, i, none⟩ = false := by
  unfold Blk at h
  simp [World.frozen?, h]
theorem Blk.rd (h : Blk w g t l) : Rd w (some ⟨g, 0, none⟩) l := fun _ => ⟨g, 0, rfl, fun i hi => by rw [Nat.zero_add]; exact h.cell hi⟩
theorem Blk.drew (h : Blk w g t l) : Blk w.drew g t l := h
theorem Blk.drewN (h : Blk w g t l) (n : Nat) : Blk (w.drewN n) g t l := h
theorem Blk.alloc (h : Blk w g t l) (o : Obj) : Blk (w.alloc o) g t l := (Below.heap_alloc w o g h.lt).trans h
theorem Blk.set_ (h : Blk w g t l) (i x : Nat) : Blk (w.setCell ⟨g, i, none⟩ (.int .u32 (x : Nat))) g t (l.set i x) := by
  unfold Blk at h ⊢
  simp [World.setCell, Array.getElem?_modify, h, List.map_set]
theorem Blk.far (h : Blk w g t l) {p : Addr} (hp : g ≠ p.block) (u : Value) : Blk (w.setCell p u) g t l := (Below.heap_setCell w p u g hp).trans h
theorem Blk.below {B : Nat} (h : Blk w g t l) (hb : Below B w w') (hg : g < B) : Blk w' g t l := (hb.block g hg).trans h
theorem Blk.new0 (w : World) (t : TypeId) (n : Nat) : Blk (w.alloc (.cells (Array.replicate n (.int .u32 0)) t)) w.heap.size t (List.replicate n 0) := by
  unfold Blk
  rw [heap_alloc_new]
  simp [List.map_replicate]
theorem Blk.new (w : World) (t : TypeId) (l : List Nat) : Blk (w.alloc (.cells (l.map fun x => Value.int .u32 (x : Nat)).toArray t)) w.heap.size t l := heap_alloc_new w _
end
theorem below_drewN {B : Nat} {a w : World} (h : Below B a w) (n : Nat) : Below B a (w.drewN n) := ⟨h.os, h.tape, h.output, h.size, h.block⟩
theorem below_mono {w w1 w2 : World} (h : Below w.heap.size w w1) (k : Below w1.heap.size w1 w2) : Below w.heap.size w w2 := h.trans (k.mono h.size)

/-- The cells of a list of limbs. -/
def cs32 (l : List Nat) : List Value := l.map fun x => Value.int .u32 (x : Nat)
theorem cs32_length (l : List Nat) : (cs32 l).length = l.length := by simp [cs32]
theorem cs32_get {l : List Nat} {i : Nat} (hi : i < l.length) : (cs32 l)[i]? = some (.int .u32 (l[i]?.getD 0 : Nat)) := by simp [cs32, List.getElem?_eq_getElem hi]
/-- A slice of limbs in a row of the call's own. -/
def Ow (w : World) (base : Nat) (e : TypeId) (v : Value) (l : List Nat) : Prop := w.ownsRow base e 1 v l.length (cs32 l)
section
variable {w w' : World} {base : Nat} {e : TypeId} {v : Value} {l : List Nat} {A : Option Addr} {c : Nat}
theorem Ow.rd (h : Ow w base e (.slice A l.length c) l) : Rd w A l := fun hl => by
  obtain ⟨g, cap, hv, _, _⟩ := World.ownsRow.form h hl
  simp only [Value.slice.injEq] at hv
  obtain ⟨rfl, _, rfl⟩ := hv
  refine ⟨g, 0, rfl, fun i hi => ?_⟩
  rw [Nat.zero_add, World.ownsRow.cellAt h i (by omega), cs32_get hi]
theorem Ow.le (h : Ow w base e (.slice A l.length c) l) : l.length ≤ c := by
  rcases h.2 with ⟨hv, h0⟩ | ⟨g, cap, cur, hv, _, _, hle, _⟩
  · omega
  · simp only [Value.slice.injEq] at hv
    omega
theorem Ow.sl (h : Ow w base e (.slice A l.length c) l) (hl : Lim l) (hn : l.length ≤ 35184372088832) : Sl w A l c := ⟨h.rd, hl, h.le, hn⟩
theorem Ow.alloc (h : Ow w base e v l) (o : Obj) : Ow (w.alloc o) base e v l := World.ownsRow.alloc h o
theorem Ow.nil0 (w : World) (base : Nat) (e : TypeId) : Ow w base e (.slice none 0 0) [] := World.ownsRow_nil w base e 1
theorem Ow.mono {b : Nat} (h : Ow w base e v l) (hb : b ≤ base) : Ow w b e v l := by
  refine ⟨h.1, ?_⟩
  rcases h.2 with h2 | ⟨g, cap, cur, hv, hg, r⟩
  · exact .inl h2
  · exact .inr ⟨g, cap, cur, hv, by omega, r⟩
theorem Ow.below {B : Nat} (h : Ow w base e v l) (hb : Below B w w') (hB : w.heap.size ≤ B) : Ow w' base e v l := by
  refine ⟨h.1, ?_⟩
  rcases h.2 with h2 | ⟨g, cap, cur, hv, hg, hh, r⟩
  · exact .inl h2
  · exact .inr ⟨g, cap, cur, hv, hg, (hb.block g (by have := lt_of_block hh; omega)).trans hh, r⟩
theorem Blk.ow {g : Nat} (h : Blk w g e l) (hg : base ≤ g) (hm : l.length ≤ maxLen) : Ow w base e (.slice (some ⟨g, 0, none⟩) l.length l.length) l :=
  ⟨by simp [cs32], .inr ⟨g, l.length, _, rfl, hg, h, Nat.le_refl _, hm, by simp, by simp [cs32, ← List.map_take]⟩⟩
theorem Ow.empty (w : World) (base : Nat) (e : TypeId) (hb : base ≤ w.heap.size) : Ow (w.alloc (.cells #[] e)) base e (.slice (some ⟨w.heap.size, 0, none⟩) 0 0) [] :=
  (Blk.new w e []).ow hb (by simp)
theorem Rd.one (w : World) (x : Nat) (e : TypeId) : Rd (w.alloc (.cells #[.int .u32 (x : Nat)] e)) (some ⟨w.heap.size, 0, none⟩) [x] :=
  (Blk.new w e [x]).rd
theorem Rd.two (w : World) (x y : Nat) (e : TypeId) : Rd (w.alloc (.cells #[.int .u32 (x : Nat), .int .u32 (y : Nat)] e)) (some ⟨w.heap.size, 0, none⟩) [x, y] :=
  (Blk.new w e [x, y]).rd
theorem Rd.news {ad : Addr} (h : Rd w (some ad) l) : ∀ j u, (cs32 l)[j]? = some u → w.cell? (ad.add j) = some u := by
  intro j u hu
  have hj : j < l.length := by
    rcases Nat.lt_or_ge j l.length with hj | hj
    · exact hj
    · rw [List.getElem?_eq_none (by simpa [cs32] using hj)] at hu; cases hu
  obtain ⟨b, o, e, hc⟩ := h (by omega)
  cases e
  rw [cs32_get hj] at hu
  cases hu
  have := hc j hj
  unfold Addr.add
  split
  · next h0 => subst h0; exact this
  · exact this
theorem cs32_one : ∀ u ∈ cs32 l, u.oneCell' = true := by
  intro u hu
  simp only [cs32, List.mem_map] at hu
  obtain ⟨x, _, rfl⟩ := hu
  rfl
end

theorem run_app {P : Program} (w : World) (base : Nat) (t ty e : TypeId) (i : TypeInfo) (ht : P.underlying t = some (.slice e)) (hi : P.info? e = some i) (hz : i.zero = some (.int .u32 0))
    (hsize : i.size = 1) (hby : i.bytes = 4) (v : Value) (l : List Nat) (hown : Ow w base e v l) (A2 : Option Addr) (l2 : List Nat) (c2 : Nat) (hr : Rd w A2 l2)
    (h63 : l.length + l2.length ≤ 35184372088832) (hbase : base ≤ w.heap.size) :
    ∃ A' c' w', (Builtin.append_ #[t, t] ty #[v, .slice A2 l2.length c2]).run P w = .ok (.slice A' (l ++ l2).length c') w' ∧ Ow w' base e (.slice A' (l ++ l2).length c') (l ++ l2) ∧
      w.grownBy w' v.ownBlock ∧ ((Value.slice A' (l ++ l2).length c').ownBlock = v.ownBlock ∨ (Value.slice A' (l ++ l2).length c').ownBlock = some w.heap.size) := by
  have form : ∀ {W : World} {v' : Value} {L : List Nat}, Ow W base e v' L → ∃ A' c', v' = .slice A' L.length c' := by
    intro W v' L h
    rcases h.2 with ⟨rfl, h0⟩ | ⟨g, cap, cur, rfl, _⟩
    · exact ⟨none, 0, by rw [h0]⟩
    · exact ⟨_, _, rfl⟩
  rcases A2 with _ | ad
  · have hl : l2 = [] := by
      rcases l2 with _ | ⟨x, t⟩
      · rfl
      · obtain ⟨_, _, h, _⟩ := hr (by simp)
        cases h
    subst hl
    obtain ⟨A', c', rfl⟩ := form hown
    refine ⟨A', c', w, ?_, by simpa using hown, World.grownBy.refl w _, .inl (by simp)⟩
    simp only [List.append_nil, List.length_nil]
    rcases hown.2 with ⟨hv, h0⟩ | ⟨g, cap, cur, hv, _, _, hnc, _⟩
    · rw [hv]; simp [Builtin.append_, run_underlying ht, sizeOf, typeInfo, hi, Builtin.lenOf, Builtin.firstCells]
    · rw [hv]; simp [Builtin.append_, run_underlying ht, sizeOf, typeInfo, hi, Builtin.lenOf, Builtin.firstCells, hnc, storeCells]
  · obtain ⟨v', w', hrun, hown', hg, _, hat⟩ := run_append_own_at (P := P) w base t ty e i (.int .u32 0) 1 4 ht hi hz hsize hby rfl (by omega) v l.length (cs32 l) hown ad l2.length c2 (cs32 l2) (by simp [cs32]) hr.news cs32_one (by unfold maxLen; omega) (by omega) hbase
    have hown2 : Ow w' base e v' (l ++ l2) := by
      unfold Ow
      rw [List.length_append]
      simpa [cs32] using hown'
    obtain ⟨A', c', rfl⟩ := form hown2
    exact ⟨A', c', w', hrun, hown2, hg, hat⟩

theorem wpList_app {P : Program} {w : World} {ops : Array Oper} {rest : List Oper} {o : Oper} {a : Act} {Q : Exit → Act → World → Prop} (hgd : o.guard = none) (s x : Operand) (t : TypeId)
    (ho : o.op = .call { callee := .builtin .append, args := #[s, x], argTypes := #[t, t] })
    (base : Nat) (e : TypeId) (i : TypeInfo) (ht : P.underlying t = some (.slice e)) (hi : P.info? e = some i) (hz : i.zero = some (.int .u32 0)) (hsize : i.size = 1) (hby : i.bytes = 4)
    (v : Value) (l : List Nat) (hs : a.eval s = v) (hown : Ow w base e v l) (A2 : Option Addr) (n2 : Nat) (l2 : List Nat) (c2 : Nat) (hx : a.eval x = .slice A2 n2 c2) (hn2 : l2.length = n2) (hr : Rd w A2 l2)
    (h63 : l.length + l2.length ≤ 35184372088832) (hbase : base ≤ w.heap.size)
    (h : ∀ A' c' w', Ow w' base e (.slice A' (l ++ l2).length c') (l ++ l2) → w.grownBy w' v.ownBlock →
      ((Value.slice A' (l ++ l2).length c').ownBlock = v.ownBlock ∨ (Value.slice A' (l ++ l2).length c').ownBlock = some w.heap.size) → wpList P ops Q rest (a.put o.dst (.slice A' (l ++ l2).length c')) w') :
    wpList P ops Q (o :: rest) a w := by
  subst hn2
  refine wpList_plain hgd fun K hK => ?_
  obtain ⟨A', c', w', hrun, h2, h3, h4⟩ := run_app (P := P) w base t o.type e i ht hi hz hsize hby v l hown A2 l2 c2 hr h63 hbase
  unfold Oper.wp execOp
  simp only [ho, resolve, invoke, builtin, Sem.run_bind, Sem.run_pure, Result.andThen_ok, List.map_toArray, List.map_cons, List.map_nil, hs, hx, hrun]
  exact hK _ _ (h A' c' w' h2 h3 h4)

/-- 'append([]uint32{}, x...)': a copy in new memory. -/
theorem wpList_clone {P : Program} {w : World} {ops : Array Oper} {rest : List Oper} {o : Oper} {a : Act} {Q : Exit → Act → World → Prop} (hgd : o.guard = none) (s x : Operand) (t : TypeId)
    (ho : o.op = .call { callee := .builtin .append, args := #[s, x], argTypes := #[t, t] })
    (e : TypeId) (i : TypeInfo) (ht : P.underlying t = some (.slice e)) (hi : P.info? e = some i) (hz : i.zero = some (.int .u32 0)) (hsize : i.size = 1) (hby : i.bytes = 4)
    (hs : a.eval s = .slice (some ⟨w.heap.size, 0, none⟩) 0 0) (A2 : Option Addr) (n2 : Nat) (l2 : List Nat) (c2 : Nat) (hx : a.eval x = .slice A2 n2 c2) (hn2 : l2.length = n2) (hr : Rd w A2 l2)
    (h63 : l2.length ≤ 35184372088832)
    (h : ∀ A' c' w', Ow w' w.heap.size e (.slice A' l2.length c') l2 → Below w.heap.size w w' → wpList P ops Q rest (a.put o.dst (.slice A' n2 c')) w') :
    wpList P ops Q (o :: rest) a (w.alloc (.cells #[] e)) := by
  refine wpList_app hgd s x t ho w.heap.size e i ht hi hz hsize hby _ [] hs (Ow.empty w _ _ (Nat.le_refl _)) A2 n2 l2 c2 hx hn2 (hr.alloc _) (by simpa using h63) (by simp) ?_
  intro A' c' w1 hown hgrow _
  simp only [List.nil_append] at hown hgrow ⊢
  subst hn2
  exact h A' c' w1 hown (((Below.refl _ w).alloc (Nat.le_refl _) _).grown hgrow (by simp) (fun k e => by cases e; exact Nat.le_refl _))

theorem grown_below {B : Nat} {w0 w w' : World} {row : Option Nat} (h : Below B w0 w) (hg : w.grownBy w' row) (hB : B ≤ w.heap.size) (hr : ∀ k, row = some k → B ≤ k) : Below B w0 w' := h.grown hg hB hr
theorem Ow.own {w : World} {base : Nat} {e : TypeId} {v : Value} {l : List Nat} (h : Ow w base e v l) : ∀ k, v.ownBlock = some k → base ≤ k := fun k hk => (World.ownsRow.lt h k hk).1

/-- What a call hands back that makes a number and an error: new memory, the old as it was. -/
def WRes (r : (Bool × List Nat) × Int) (w : World) : Ending → World → Prop := fun e w' =>
  ∃ A c, e = .returned (.tuple #[.agg #[.bool r.1.1, .slice A r.1.2.length c], .int .i64 r.2]) ∧ Sl w' A r.1.2 c ∧ Below w.heap.size w w'
/-- .. a number alone. -/
def WRes1 (r : Bool × List Nat) (w : World) : Ending → World → Prop := fun e w' =>
  ∃ A c, e = .returned (.agg #[.bool r.1, .slice A r.2.length c]) ∧ Sl w' A r.2 c ∧ Below w.heap.size w w'
/-- .. a slice of limbs. -/
def LRes (l : List Nat) (w : World) : Ending → World → Prop := fun e w' =>
  ∃ A c, e = .returned (.slice A l.length c) ∧ Sl w' A l c ∧ Below w.heap.size w w'
theorem blw1 (w : World) (o : Obj) : Below w.heap.size w (w.alloc o) := (Below.refl _ _).alloc (Nat.le_refl _) _
theorem blw2 (w : World) (o o2 : Obj) : Below w.heap.size w ((w.alloc o).alloc o2) := (blw1 w o).alloc (by simp) _
theorem blw3 (w : World) (o o2 o3 : Obj) : Below w.heap.size w (((w.alloc o).alloc o2).alloc o3) := (blw2 w o o2).alloc (by simp; omega) _
theorem blw4 (w : World) (o o2 o3 o4 : Obj) : Below w.heap.size w ((((w.alloc o).alloc o2).alloc o3).alloc o4) := (blw3 w o o2 o3).alloc (by simp; omega) _
theorem Rd.set {w : World} {A : Option Addr} {l : List Nat} (h : Rd w A l) {p : Addr} {v : Value} (hp : w.cell? p = some v) (hv : ∀ n, v ≠ .int .u32 n) (u : Value) : Rd (w.setCell p u) A l := fun hl => by
  obtain ⟨b, o, e, hc⟩ := h hl
  refine ⟨b, o, e, fun i hi => ?_⟩
  have h1 := hc i hi
  rw [World.cell?_setCell_other w p ⟨b, o + i, none⟩ u (fun e => by subst e; rw [h1] at hp; cases hp; exact hv _ rfl)]
  exact h1
theorem Sl.set {w : World} {A : Option Addr} {l : List Nat} {c : Nat} (h : Sl w A l c) {p : Addr} {v : Value} (hp : w.cell? p = some v) (hv : ∀ n, v ≠ .int .u32 n) (u : Value) : Sl (w.setCell p u) A l c := ⟨h.rd.set hp hv u, h.lim, h.le, h.len⟩
theorem Sl.setW {w : World} {A : Option Addr} {l : List Nat} {c g : Nat} (h : Sl w A l c) {b : Bool} {A2 : Option Addr} {n2 c2 : Nat} (q0 : w.cell? ⟨g, 0, none⟩ = some (.bool b)) (q1 : w.cell? ⟨g, 1, none⟩ = some (.slice A2 n2 c2)) (x y : Value) :
    Sl ((w.setCell ⟨g, 0, none⟩ x).setCell ⟨g, 1, none⟩ y) A l c :=
  (h.set q0 (fun _ e => by cases e) x).set (v := .slice A2 n2 c2) (by rw [World.cell?_setCell_other _ _ _ _ (by simp)]; exact q1) (fun _ e => by cases e) y
theorem below_setW {B g : Nat} {a w : World} (h : Below B a w) (hg : B ≤ g) (x y : Value) : Below B a ((w.setCell ⟨g, 0, none⟩ x).setCell ⟨g, 1, none⟩ y) :=
  (h.setCell (p := ⟨g, 0, none⟩) hg x).setCell (p := ⟨g, 1, none⟩) hg y
end Go.Proofs.Ytejapkdhbpngbaa

/- Memory: slices of bytes that the call itself makes. -/
import Derived.Test.YtejapkdhbpngbaaDoorMem
import Derived.Laws.IdiomStrings
namespace Go.Proofs.YtejapkdhbpngbaaDoor
open Go.RowKit
/-- The cells of a list of bytes. -/
def cs8 (l : List UInt8) : List Value := l.map fun x => Value.int .u8 (x.toNat : Nat)

theorem cs8_length (l : List UInt8) : (cs8 l).length = l.length := by simp [cs8]

theorem cs8_get {l : List UInt8} {i : Nat} (hi : i < l.length) : (cs8 l)[i]? = some (.int .u8 ((l[i]?.getD 0).toNat : Nat)) := by simp [cs8, List.getElem?_eq_getElem hi]

theorem cs8_one {l : List UInt8} : ∀ u ∈ cs8 l, u.oneCell' = true := by
  intro u hu
  simp only [cs8, List.mem_map] at hu
  obtain ⟨x, _, rfl⟩ := hu
  rfl

/-- A slice of bytes: its cells. -/
def RdB (w : World) (A : Option Addr) (l : List UInt8) : Prop :=
  0 < l.length → ∃ b o, A = some ⟨b, o, none⟩ ∧ ∀ i, i < l.length → w.cell? ⟨b, o + i, none⟩ = some (.int .u8 ((l[i]?.getD 0).toNat : Nat))

/-- A slice of bytes in a row of the call's own. -/
def Ob (w : World) (base : Nat) (e : TypeId) (v : Value) (l : List UInt8) : Prop := w.ownsRow base e 1 v l.length (cs8 l)

section
variable {w w' : World} {base : Nat} {e : TypeId} {v : Value} {l : List UInt8} {A : Option Addr} {c : Nat}
theorem RdB.below (h : RdB w A l) (hb : Below w.heap.size w w') : RdB w' A l := fun hl => by
  obtain ⟨b, o, e, hc⟩ := h hl
  exact ⟨b, o, e, fun i hi => kept_cell hb (hc i hi)⟩

theorem Ob.nil0 (w : World) (base : Nat) (e : TypeId) : Ob w base e (.slice none 0 0) [] := World.ownsRow_nil w base e 1

theorem Ob.alloc (h : Ob w base e v l) (o : Obj) : Ob (w.alloc o) base e v l := World.ownsRow.alloc h o

theorem Ob.drew (h : Ob w base e v l) : Ob w.drew base e v l := h

theorem Ob.below {B : Nat} (h : Ob w base e v l) (hb : Below B w w') (hB : w.heap.size ≤ B) : Ob w' base e v l := by
  refine ⟨h.1, ?_⟩
  rcases h.2 with h2 | ⟨g, cap, cur, hv, hg, hh, r⟩
  · exact .inl h2
  · exact .inr ⟨g, cap, cur, hv, hg, (hb.block g (by have := lt_of_block hh; omega)).trans hh, r⟩

theorem Ob.own (h : Ob w base e v l) : ∀ k, v.ownBlock = some k → base ≤ k := fun k hk => (World.ownsRow.lt h k hk).1

theorem Ob.rd (h : Ob w base e (.slice A l.length c) l) : RdB w A l := fun hl => by
  obtain ⟨g, cap, hv, _, _⟩ := World.ownsRow.form h hl
  simp only [Value.slice.injEq] at hv
  obtain ⟨rfl, _, rfl⟩ := hv
  refine ⟨g, 0, rfl, fun i hi => ?_⟩
  rw [Nat.zero_add, World.ownsRow.cellAt h i (by omega), cs8_get hi]

theorem Ob.block (h : Ob w base e (.slice A l.length c) l) (hl : 0 < l.length) : ∃ g, A = some ⟨g, 0, none⟩ ∧ base ≤ g ∧ g < w.heap.size ∧ (∀ i, w.frozen? ⟨g, i, none⟩ = false) := by
  rcases h.2 with ⟨hv, h0⟩ | ⟨g, cap, cur, hv, hg, hh, hnc, hcap, hsz, htk⟩
  · omega
  · simp only [Value.slice.injEq] at hv
    obtain ⟨rfl, _, rfl⟩ := hv
    exact ⟨g, rfl, hg, lt_of_block hh, fun i => by simp [World.frozen?, hh]⟩

end
theorem rdb_one (w : World) {z : Int} {x : UInt8} (hv : z = (x.toNat : Nat)) (e : TypeId) : ∀ j u, (cs8 [x])[j]? = some u → (w.alloc (.cells #[.int .u8 z] e)).cell? ((⟨w.heap.size, 0, none⟩ : Addr).add j) = some u := by
  subst hv
  intro j u hu
  match j with
  | 0 =>
    simp [cs8] at hu
    subst hu
    simp [Addr.add]
  | j + 1 => simp [cs8] at hu

/-- 'append(out, x)' of one byte, out in a row of the call's own. -/
theorem wpList_appB {P : Program} {w : World} {ops : Array Oper} {rest : List Oper} {o : Oper} {a : Act} {Q : Exit → Act → World → Prop} (hgd : o.guard = none) (s x : Operand) (t : TypeId)
    (ho : o.op = .call { callee := .builtin .append, args := #[s, x], argTypes := #[t, t] })
    (base : Nat) (e : TypeId) (i : TypeInfo) (ht : P.underlying t = some (.slice e)) (hi : P.info? e = some i) (hz : i.zero = some (.int .u8 0)) (hsize : i.size = 1) (hby : i.bytes = 1)
    (v : Value) (l : List UInt8) (hs : a.eval s = v) (hown : Ob w base e v l) (z : Int) (y : UInt8) (hy : z = (y.toNat : Nat)) (e2 : TypeId) (hx : a.eval x = .slice (some ⟨w.heap.size, 0, none⟩) 1 1)
    (h63 : l.length + 1 ≤ 35184372088832) (hbase : base ≤ w.heap.size)
    (h : ∀ A' c' w', Ob w' base e (.slice A' (l ++ [y]).length c') (l ++ [y]) → (w.alloc (.cells #[.int .u8 z] e2)).grownBy w' v.ownBlock →
      ((Value.slice A' (l ++ [y]).length c').ownBlock = v.ownBlock ∨ (Value.slice A' (l ++ [y]).length c').ownBlock = some (w.alloc (.cells #[.int .u8 z] e2)).heap.size) → wpList P ops Q rest (a.put o.dst (.slice A' (l ++ [y]).length c')) w') :
    wpList P ops Q (o :: rest) a (w.alloc (.cells #[.int .u8 z] e2)) := by
  refine wpList_plain hgd fun K hK => ?_
  obtain ⟨v', w', hrun, hown', hg, _, hat⟩ := run_append_own_at (P := P) (w.alloc (.cells #[.int .u8 z] e2)) base t o.type e i (.int .u8 0) 1 1 ht hi hz hsize hby rfl (by omega) v l.length (cs8 l) (World.ownsRow.alloc hown _) ⟨w.heap.size, 0, none⟩ 1 1 (cs8 [y]) (by simp [cs8]) (rdb_one w hy e2) cs8_one (by unfold maxLen; omega) (by omega) (by simp; omega)
  have hown2 : Ob w' base e v' (l ++ [y]) := by
    unfold Ob
    rw [List.length_append]
    simpa [cs8] using hown'
  obtain ⟨A', c', rfl⟩ : ∃ A' c', v' = .slice A' (l ++ [y]).length c' := by
    rcases hown2.2 with ⟨rfl, h0⟩ | ⟨g, cap, cur, rfl, _⟩
    · simp at h0
    · exact ⟨_, _, rfl⟩
  unfold Oper.wp execOp
  simp only [ho, resolve, invoke, builtin, Sem.run_bind, Sem.run_pure, Result.andThen_ok, List.map_toArray, List.map_cons, List.map_nil, hs, hx, hrun]
  exact hK _ _ (h A' c' w' hown2 hg hat)

end Go.Proofs.YtejapkdhbpngbaaDoor

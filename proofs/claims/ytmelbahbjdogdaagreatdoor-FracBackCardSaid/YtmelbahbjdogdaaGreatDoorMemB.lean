/- Memory: slices of bytes that the call itself makes. -/
import Derived.Test.YtmelbahbjdogdaaGreatDoorMem
import Derived.Test.YtmelbahbjdogdaaGreatDoorW1
import Derived.Laws.IdiomStrings
import Derived.RegionTactic
import Derived.Deep.LoopGhost
namespace Go.Proofs.YtmelbahbjdogdaaGreatDoor
open Go.RowKit
/-- The cells of a list of bytes. -/
def cs8 (l : List UInt8) : List Value := l.map fun x => Value.int .u8 (x.toNat : Nat)

theorem cs8_get {l : List UInt8} {i : Nat} (hi : i < l.length) : (cs8 l)[i]? = some (.int .u8 ((l[i]?.getD 0).toNat : Nat)) := by simp [cs8, List.getElem?_eq_getElem hi]

theorem cs8_one {l : List UInt8} : ∀ u ∈ cs8 l, u.oneCell' = true := by
  intro u hu
  simp only [cs8, List.mem_map] at hu
  obtain ⟨x, _, rfl⟩ := hu
  rfl

/-- A slice of bytes: its cells. -/
def RdB (w : World) (A : Option Addr) (l : List UInt8) : Prop :=
  0 < l.length → ∃ b o, A = some ⟨b, o, none⟩ ∧ ∀ i, i < l.length → w.cell? ⟨b, o + i, none⟩ = some (.int .u8 ((l[i]?.getD 0).toNat : Nat))

/-- A slice of bytes in a row of the call's own. -/
def Ob (w : World) (base : Nat) (e : TypeId) (v : Value) (l : List UInt8) : Prop := w.ownsRow base e 1 v l.length (cs8 l)

section
variable {w w' : World} {base : Nat} {e : TypeId} {v : Value} {l : List UInt8} {A : Option Addr} {c : Nat}
theorem RdB.below (h : RdB w A l) (hb : Below w.heap.size w w') : RdB w' A l := fun hl => by
  obtain ⟨b, o, e, hc⟩ := h hl
  exact ⟨b, o, e, fun i hi => kept_cell hb (hc i hi)⟩

theorem Ob.nil0 (w : World) (base : Nat) (e : TypeId) : Ob w base e (.slice none 0 0) [] := World.ownsRow_nil w base e 1

theorem Ob.alloc (h : Ob w base e v l) (o : Obj) : Ob (w.alloc o) base e v l := World.ownsRow.alloc h o

theorem Ob.drew (h : Ob w base e v l) : Ob w.drew base e v l := h

theorem Ob.below {B : Nat} (h : Ob w base e v l) (hb : Below B w w') (hB : w.heap.size ≤ B) : Ob w' base e v l := by
  refine ⟨h.1, ?_⟩
  rcases h.2 with h2 | ⟨g, cap, cur, hv, hg, hh, r⟩
  · exact .inl h2
  · exact .inr ⟨g, cap, cur, hv, hg, (hb.block g (by have := lt_of_block hh; omega)).trans hh, r⟩

theorem Ob.own (h : Ob w base e v l) : ∀ k, v.ownBlock = some k → base ≤ k := fun k hk => (World.ownsRow.lt h k hk).1

theorem Ob.rd (h : Ob w base e (.slice A l.length c) l) : RdB w A l := fun hl => by
  obtain ⟨g, cap, hv, _, _⟩ := World.ownsRow.form h hl
  simp only [Value.slice.injEq] at hv
  obtain ⟨rfl, _, rfl⟩ := hv
  refine ⟨g, 0, rfl, fun i hi => ?_⟩
  rw [Nat.zero_add, World.ownsRow.cellAt h i (by omega), cs8_get hi]

theorem Ob.block (h : Ob w base e (.slice A l.length c) l) (hl : 0 < l.length) : ∃ g, A = some ⟨g, 0, none⟩ ∧ base ≤ g ∧ g < w.heap.size ∧ (∀ i, w.frozen? ⟨g, i, none⟩ = false) := by
  rcases h.2 with ⟨hv, h0⟩ | ⟨g, cap, cur, hv, hg, hh, hnc, hcap, hsz, htk⟩
  · omega
  · simp only [Value.slice.injEq] at hv
    obtain ⟨rfl, _, rfl⟩ := hv
    exact ⟨g, rfl, hg, lt_of_block hh, fun i => by simp [World.frozen?, hh]⟩

end
theorem rdb_one (w : World) {z : Int} {x : UInt8} (hv : z = (x.toNat : Nat)) (e : TypeId) : ∀ j u, (cs8 [x])[j]? = some u → (w.alloc (.cells #[.int .u8 z] e)).cell? ((⟨w.heap.size, 0, none⟩ : Addr).add j) = some u := by
  subst hv
  intro j u hu
  match j with
  | 0 =>
    simp [cs8] at hu
    subst hu
    simp [Addr.add]
  | j + 1 => simp [cs8] at hu

/-- 'append(out, x)' of one byte, out in a row of the call's own. -/
theorem wpList_appB {P : Program} {w : World} {ops : Array Oper} {rest : List Oper} {o : Oper} {a : Act} {Q : Exit → Act → World → Prop} (hgd : o.guard = none) (s x : Operand) (t : TypeId)
    (ho : o.op = .call { callee := .builtin .append, args := #[s, x], argTypes := #[t, t] })
    (base : Nat) (e : TypeId) (i : TypeInfo) (ht : P.underlying t = some (.slice e)) (hi : P.info? e = some i) (hz : i.zero = some (.int .u8 0)) (hsize : i.size = 1) (hby : i.bytes = 1)
    (v : Value) (l : List UInt8) (hs : a.eval s = v) (hown : Ob w base e v l) (z : Int) (y : UInt8) (hy : z = (y.toNat : Nat)) (e2 : TypeId) (hx : a.eval x = .slice (some ⟨w.heap.size, 0, none⟩) 1 1)
    (h63 : l.length + 1 ≤ 35184372088832) (hbase : base ≤ w.heap.size)
    (h : ∀ A' c' w', Ob w' base e (.slice A' (l ++ [y]).length c') (l ++ [y]) → (w.alloc (.cells #[.int .u8 z] e2)).grownBy w' v.ownBlock →
      ((Value.slice A' (l ++ [y]).length c').ownBlock = v.ownBlock ∨ (Value.slice A' (l ++ [y]).length c').ownBlock = some (w.alloc (.cells #[.int .u8 z] e2)).heap.size) → wpList P ops Q rest (a.put o.dst (.slice A' (l ++ [y]).length c')) w') :
    wpList P ops Q (o :: rest) a (w.alloc (.cells #[.int .u8 z] e2)) := by
  refine wpList_plain hgd fun K hK => ?_
  obtain ⟨v', w', hrun, hown', hg, _, hat⟩ := run_append_own_at (P := P) (w.alloc (.cells #[.int .u8 z] e2)) base t o.type e i (.int .u8 0) 1 1 ht hi hz hsize hby rfl (by omega) v l.length (cs8 l) (World.ownsRow.alloc hown _) ⟨w.heap.size, 0, none⟩ 1 1 (cs8 [y]) (by simp [cs8]) (rdb_one w hy e2) cs8_one (by unfold maxLen; omega) (by omega) (by simp; omega)
  have hown2 : Ob w' base e v' (l ++ [y]) := by
    unfold Ob
    rw [List.length_append]
    simpa [cs8] using hown'
  obtain ⟨A', c', rfl⟩ : ∃ A' c', v' = .slice A' (l ++ [y]).length c' := by
    rcases hown2.2 with ⟨rfl, h0⟩ | ⟨g, cap, cur, rfl, _⟩
    · simp at h0
    · exact ⟨_, _, rfl⟩
  unfold Oper.wp execOp
  simp only [ho, resolve, invoke, builtin, Sem.run_bind, Sem.run_pure, Result.andThen_ok, List.map_toArray, List.map_cons, List.map_nil, hs, hx, hrun]
  exact hK _ _ (h A' c' w' hown2 hg hat)

end Go.Proofs.YtmelbahbjdogdaaGreatDoor
/- Walks: slices.Reverse of bytes in a row of the call's own. -/
namespace Go.Proofs.YtmelbahbjdogdaaGreatDoor
open Go.RowKit
attribute [local go_sem ↓] Go.wp_at_zero Go.wp_at_succ
/-- What stands at place i behind k rounds. -/
def rvAt (l : List UInt8) (k i : Nat) : UInt8 := if i < k ∨ l.length ≤ i + k then l[l.length - 1 - i]?.getD 0 else l[i]?.getD 0

theorem rvAt_zero (l : List UInt8) {i : Nat} (hi : i < l.length) : rvAt l 0 i = l[i]?.getD 0 := by
  unfold rvAt
  rw [if_neg (by omega)]

theorem rvAt_all (l : List UInt8) {k i : Nat} (hk : l.length ≤ 2 * k + 1) (hi : i < l.length) : rvAt l k i = l.reverse[i]?.getD 0 := by
  unfold rvAt
  rw [List.getElem?_reverse hi]
  split
  · rfl
  · have : i = l.length - 1 - i := by omega
    rw [← this]

theorem rvAt_lo (l : List UInt8) {k : Nat} (hk : 2 * k + 1 < l.length) : rvAt l k k = l[k]?.getD 0 := by
  unfold rvAt
  rw [if_neg (by omega)]

theorem rvAt_hi (l : List UInt8) {k : Nat} (hk : 2 * k + 1 < l.length) : rvAt l k (l.length - 1 - k) = l[l.length - 1 - k]?.getD 0 := by
  unfold rvAt
  rw [if_neg (by omega)]

theorem rvAt_succ (l : List UInt8) {k i : Nat} (hk : 2 * k + 1 < l.length) (hi : i < l.length) :
    rvAt l (k + 1) i = if i = k then l[l.length - 1 - k]?.getD 0 else if i = l.length - 1 - k then l[k]?.getD 0 else rvAt l k i := by
  unfold rvAt
  by_cases h1 : i = k
  · subst h1; rw [if_pos (by omega), if_pos rfl]
  · rw [if_neg h1]
    by_cases h2 : i = l.length - 1 - k
    · rw [if_pos h2, if_pos (by omega)]
      congr 2
      omega
    · rw [if_neg h2]
      by_cases h3 : i < k ∨ l.length ≤ i + k
      · rw [if_pos h3, if_pos (by omega)]
      · rw [if_neg h3, if_neg (by omega)]

theorem rv_cells {wr : World} {g k m : Nat} {l : List UInt8} {x y : UInt8} (hlm : l.length = m + k + 1) (hlt : k < m) (hx : rvAt l k k = x) (hy : rvAt l k m = y)
    (hc : ∀ i, i < l.length → wr.cell? ⟨g, i, none⟩ = some (.int .u8 ((rvAt l k i).toNat : Nat))) (i : Nat) (hi : i < l.length) :
    ((wr.setCell ⟨g, k, none⟩ (.int .u8 (y.toNat : Nat))).setCell ⟨g, m, none⟩ (.int .u8 (x.toNat : Nat))).drew.cell? ⟨g, i, none⟩ = some (.int .u8 ((rvAt l (k + 1) i).toNat : Nat)) := by
  have hm : m = l.length - 1 - k := by omega
  have e1 := rvAt_lo l (k := k) (by omega)
  have e2 := rvAt_hi l (k := k) (by omega)
  rw [← hm] at e2
  show ((wr.setCell ⟨g, k, none⟩ (.int .u8 (y.toNat : Nat))).setCell ⟨g, m, none⟩ (.int .u8 (x.toNat : Nat))).cell? ⟨g, i, none⟩ = _
  rw [rvAt_succ l (by omega) hi, ← hm, ← e1, ← e2, hx, hy]
  by_cases h1 : i = m
  · subst h1
    rw [if_neg (by omega), if_pos rfl]
    exact World.cell?_setCell_same _ _ _ (by rw [World.cell?_setCell_other _ _ _ _ (by simp <;> omega), hc i hi])
  · rw [World.cell?_setCell_other _ _ _ _ (by simp <;> omega)]
    by_cases h2 : i = k
    · subst h2
      rw [if_pos rfl]
      exact World.cell?_setCell_same _ _ _ (by rw [hc i hi])
    · rw [World.cell?_setCell_other _ _ _ _ (by simp <;> omega), if_neg h2, if_neg h1]
      exact hc i hi

set_option maxRecDepth 100000 in
set_option maxHeartbeats 1000000 in
theorem reverse_any (g c : Nat) (l : List UInt8) (w : World) (hl0 : 0 < l.length) (hl : l.length ≤ 1000000) (hc : ∀ i, i < l.length → w.cell? ⟨g, i, none⟩ = some (.int .u8 ((l[i]?.getD 0).toNat : Nat))) (hf : ∀ i, w.frozen? ⟨g, i, none⟩ = false) :
    Calls Tryz.prog 107 #[.slice (some ⟨g, 0, none⟩) l.length c] w fun e w' => e = .returned (.tuple #[]) ∧ (∀ i, i < l.length → w'.cell? ⟨g, i, none⟩ = some (.int .u8 ((l.reverse[i]?.getD 0).toNat : Nat))) ∧ But g w w' := by
  have Hc : Hid (∀ i, i < l.length → w.cell? ⟨g, i, none⟩ = some (.int .u8 ((rvAt l 0 i).toNat : Nat))) := fun i hi => by rw [rvAt_zero l hi]; exact hc i hi
  have Hf := Lib.hid hf
  clear hc hf
  go_enter Tryz.func107, Tryz.ntmps107
  go_wp2
  go_loopg [2, 3] l.length (fun gh i j wr => ∃ k m : Nat, l.length = m + k + 1 ∧ k ≤ m + 1 ∧ gh + k = l.length ∧ i = .int .i64 k ∧ j = .int .i64 m ∧ (∀ i, i < l.length → wr.cell? ⟨g, i, none⟩ = some (.int .u8 ((rvAt l k i).toNat : Nat))) ∧ (∀ i, wr.frozen? ⟨g, i, none⟩ = false) ∧ But g w wr)
  case atStart => exact ⟨0, l.length - 1, by omega, by omega, by omega, rfl, by congr 1; omega, Hc.out, Hf.out, But.refl _ _⟩
  case round =>
    clear Hc Hf
    obtain ⟨k, m, hlm, hkm, hgk, rfl, rfl, hc, hf, hb⟩ := hrel
    have Hc := Lib.hid hc
    have Hf := Lib.hid hf
    have Hb := Lib.hid hb
    have Hlm := Lib.hid hlm
    have hkl : k < l.length := by omega
    have hml : m < l.length := by omega
    have hkm2 : k ≤ m + 1 := hkm
    have hgk2 : k ≤ 1000000 := by omega
    have hgm2 : m ≤ 1000000 := by omega
    clear hc hf hb hlm
    by_cases hlt : k < m
    · have hck := Hc.out k hkl
      have hcm := Hc.out m hml
      have hfk := Hf.out k
      have hfm := Hf.out m
      generalize hx : rvAt l k k = x at *
      generalize hy : rvAt l k m = y at *
      have Hx := Lib.hid hx
      have Hy := Lib.hid hy
      clear hx hy
      go_wp2
      go_region
      go_wp2
      go_roundg (gk - 1)
      case rel => exact ⟨k + 1, m - 1, by have := Hlm.out; omega, by omega, by omega, by go_num, by congr 1; omega, rv_cells Hlm.out hlt Hx.out Hy.out Hc.out, fun i => by rw [World.frozen?_drew, World.frozen?_setCell, World.frozen?_setCell]; exact Hf.out i, ((Hb.out.set ⟨g, k, none⟩ rfl _).set ⟨g, m, none⟩ rfl _).drew⟩
      case measure => omega
    · go_wp2
      go_end0
      exact ⟨rfl, fun i hi => by rw [← rvAt_all l (k := k) (by have := Hlm.out; omega) hi]; exact Hc.out i hi, Hb.out⟩

end Go.Proofs.YtmelbahbjdogdaaGreatDoor

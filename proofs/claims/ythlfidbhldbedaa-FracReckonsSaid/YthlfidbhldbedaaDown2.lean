/- For loops over 'down' that write a slice and a variable laid ahead of the loop. -/
import Derived.Test.YthlfidbhldbedaaDown
import Derived.Test.YthlfidbhldbedaaMem
import Derived.Deep.RegionHeld3
namespace Go.Proofs.Ythlfidbhldbedaa
open Go.RowKit
theorem downA_get (n : Nat) : ∀ (m : Nat) (h : m ≤ n) (i : Nat) (x : { i : Nat // i < n }), (downA n m h)[i]? = some x → x.1 + 1 + i = m
  | 0, _, i, x, e => by simp [downA] at e
  | m + 1, h, 0, x, e => by
    simp only [downA, List.getElem?_cons_zero, Option.some.injEq] at e
    subst e; rfl
  | m + 1, h, i + 1, x, e => by
    simp only [downA, List.getElem?_cons_succ] at e
    have := downA_get n m (by omega) i x e
    omega

/-- The next place, where the places so far are a beginning of the way down. -/
theorem down_next {n : Nat} {pre : List { i : Nat // i < n }} {x : { i : Nat // i < n }} (h : ∃ rest, (pre ++ [x]) ++ rest = downAll n) : (∃ rest, pre ++ rest = downAll n) ∧ x.1 + 1 + pre.length = n := by
  obtain ⟨rest, e⟩ := h
  refine ⟨⟨x :: rest, by rw [← e]; simp⟩, ?_⟩
  refine downA_get n n (Nat.le_refl _) pre.length x ?_
  rw [show downA n n (Nat.le_refl _) = downAll n from rfl, ← e]
  simp

theorem downAll_len (n : Nat) : (downAll n).length = n := downA_length n n (Nat.le_refl _)

/-- Of the blocks below B only g1 and g2 were written. -/
structure KpB (B g1 g2 : Nat) (W W' : World) : Prop where
  size : W.heap.size ≤ W'.heap.size
  block : ∀ k, k < B → k ≠ g1 → k ≠ g2 → W'.heap[k]? = W.heap[k]?

theorem KpB.refl (B g1 g2 : Nat) (W : World) : KpB B g1 g2 W W := ⟨Nat.le_refl _, fun _ _ _ _ => rfl⟩

theorem KpB.trans {B g1 g2 : Nat} {X Y Z : World} (h : KpB B g1 g2 X Y) (k : KpB B g1 g2 Y Z) : KpB B g1 g2 X Z := ⟨Nat.le_trans h.size k.size, fun i hi h1 h2 => (k.block i hi h1 h2).trans (h.block i hi h1 h2)⟩

theorem KpB.putObj {B g1 g2 : Nat} (W : World) (l : Nat) (o' : Obj) (hl : B ≤ l) : KpB B g1 g2 W (W.putObj l o') :=
  ⟨(grownBy_putObj' W l o').size, fun k hk _ _ => World.putObj_heap_other (by omega)⟩

theorem KpB.of {B g1 g2 : Nat} {W W' : World} (h : Below B W W') : KpB B g1 g2 W W' := ⟨h.size, fun k hk _ _ => h.block k hk⟩

theorem KpB.set1 {B g1 g2 : Nat} {X W : World} (h : KpB B g1 g2 X W) (i : Nat) (v : Value) : KpB B g1 g2 X (W.setCell ⟨g1, i, none⟩ v) :=
  ⟨by simpa [World.setCell] using h.size, fun k hk h1 h2 => (Below.heap_setCell W ⟨g1, i, none⟩ v k h1).trans (h.block k hk h1 h2)⟩

theorem KpB.set2 {B g1 g2 : Nat} {X W : World} (h : KpB B g1 g2 X W) (i : Nat) (v : Value) : KpB B g1 g2 X (W.setCell ⟨g2, i, none⟩ v) :=
  ⟨by simpa [World.setCell] using h.size, fun k hk h1 h2 => (Below.heap_setCell W ⟨g2, i, none⟩ v k h2).trans (h.block k hk h1 h2)⟩

theorem KpB.drew {B g1 g2 : Nat} {X W : World} (h : KpB B g1 g2 X W) : KpB B g1 g2 X W.drew := ⟨h.size, h.block⟩

theorem KpB.drewN {B g1 g2 : Nat} {X W : World} (h : KpB B g1 g2 X W) (n : Nat) : KpB B g1 g2 X (W.drewN n) := ⟨h.size, h.block⟩

theorem KpB.cell {B g1 g2 : Nat} {W W' : World} (h : KpB B g1 g2 W W') {a : Addr} {v : Value} (hc : W.cell? a = some v) (hB : a.block < B) (h1 : a.block ≠ g1) (h2 : a.block ≠ g2) : W'.cell? a = some v := by
  unfold World.cell? at hc ⊢
  rw [h.block _ hB h1 h2]; exact hc

theorem KpB.sl {B g1 g2 : Nat} {W W' : World} (h : KpB B g1 g2 W W') {A : Option Addr} {l : List Nat} {c : Nat} (hs : Sl W A l c) (hf : 0 < l.length → ∀ ad, A = some ad → ad.block < B ∧ ad.block ≠ g1 ∧ ad.block ≠ g2) : Sl W' A l c :=
  ⟨fun hl => by
    obtain ⟨b, o, e, hc⟩ := hs.rd hl
    have hf' := hf hl _ e
    exact ⟨b, o, e, fun i hi => h.cell (hc i hi) hf'.1 hf'.2.1 hf'.2.2⟩, hs.lim, hs.le, hs.len⟩

theorem ownFrom_kp {β : Type} {B g1 g2 : Nat} {W0 : World} (hB : B ≤ W0.heap.size) : OwnFrom B (fun (_ : β) W => KpB B g1 g2 W0 W) :=
  fun _ W W' row hs hg hr => ⟨Nat.le_trans hs.size hg.size, fun k hk h1 h2 => (hg.block k (Nat.lt_of_lt_of_le hk (Nat.le_trans hB hs.size)) (fun e => by have := (hr k e.symm).1; omega)).trans (hs.block k hk h1 h2)⟩

/-- A block below the machinery's stays. -/
theorem own_block {B k : Nat} {W W' : World} {row : Option Nat} {o : Obj} (h : W.heap[k]? = some o) (hk : k < B) (hg : W.grownBy W' row) (hr : ∀ r, row = some r → B ≤ r ∧ ∃ o : Obj, W.heap[r]? = some o ∧ o.isCells = false) : W'.heap[k]? = some o :=
  (hg.block k (lt_of_block' h) (fun e => by have := (hr k e.symm).1; omega)).trans h

where lt_of_block' {W : World} {k : Nat} {o : Obj} (h : W.heap[k]? = some o) : k < W.heap.size := (Array.getElem?_eq_some_iff.1 h).1
theorem keeps_drewN (B : Nat) (W : World) (n : Nat) : KeepsFrom B W (W.drewN n) := ⟨Nat.le_refl _, fun _ _ _ h _ => h⟩

theorem keeps_drew (B : Nat) (W : World) : KeepsFrom B W W.drew := ⟨Nat.le_refl _, fun _ _ _ h _ => h⟩

end Go.Proofs.Ythlfidbhldbedaa
/- A region that draws its order, within a round of a range over a function (the wide fence): by the laws outside of fences. -/
namespace Go.Proofs.Ythlfidbhldbedaa
open Go.RowKit
/-- No operation defers. -/
def noDefer (ops : Array Oper) : Bool := ops.toList.all fun o => match o.op with | .defer _ => false | _ => true

theorem noDefer_spec {ops : Array Oper} (h : noDefer ops = true) {i : Nat} {o : Oper} (hi : ops[i]? = some o) : ∀ c, o.op ≠ .defer c := by
  intro c e
  have hm : o ∈ ops.toList := by
    rw [← Array.getElem?_toList] at hi
    exact List.mem_of_getElem? hi
  have := List.all_eq_true.1 h o hm
  rw [e] at this
  cases this

section
variable {P : Program} {ops : Array Oper} {Q : Exit → Act → World → Prop} {l n : Nat}
theorem rowsIn_round {row : String} {args : Array Value} {w : World} {R : Value → World → Prop} (h : Rows P row args w R) : RowsIn (Fence.wide.inRound l) n P row args w R := by
  intro c cs _
  obtain ⟨v, w', hr, hs⟩ := h c cs
  exact ⟨v, w', hr, stepsIn_wide.2 hs⟩

theorem wpOpIn_round (hnd : noDefer ops = true) (hlo : ¬ LetsOut Q) {i : Nat} {K : Act → World → Prop} {a : Act} {w : World} (h : wpOp P ops Q i K a w) : wpOpIn (Fence.wide.inRound l) n P ops Q i K a w := by
  unfold wpOp at h
  unfold wpOpIn
  cases ho : ops[i]? with
  | none => rw [ho] at h; exact h
  | some o =>
    rw [ho] at h
    dsimp only at h ⊢
    split at h
    · rename_i hw
      rw [if_pos hw]
      have h2 := h.resolve_right (fun h3 => hlo h3.2)
      unfold Oper.wp at h2
      refine ⟨fun _ _ => trivial, ?_⟩
      rw [Oper.semAt_eq _ _ _ (noDefer_spec hnd ho)]
      generalize (execOp a.eval o).run P w = r at *
      cases r with
      | ok x w' =>
        cases x with
        | enter f args => exact ⟨fun hd => by simp [Fence.inRound, Fence.wide] at hd, callsIn_wide.2 h2⟩
        | row rw args => exact ⟨fun hd => by simp [Fence.inRound, Fence.wide] at hd, rowsIn_round h2⟩
        | round l f tmps assign body => exact h2.elim
        | value v => exact h2
        | skip => exact h2
        | defer d => exact h2
        | _ => exact h2.elim
      | halt x w' => cases x <;> simp only [Oper.upon, Oper.uponIn] at h2 ⊢ <;> exact h2
    · rename_i hw
      rw [if_neg hw]
      exact ⟨fun _ _ => trivial, h⟩

theorem wpAnyIn_round (hnd : noDefer ops = true) (hlo : ¬ LetsOut Q) {md : Region.Mode} : ∀ (fuel : Nat) (listed : Array Bool) (a : Act) (w : World), wpAny P md ops Q fuel listed a w → wpAnyIn (Fence.wide.inRound l) n P md ops Q fuel listed a w
  | 0, _, _, _, h => h
  | fuel + 1, _, _, _, h => ⟨h.1, fun i hi => wpOpIn_mono (fun a' w' h' => wpAnyIn_round hnd hlo fuel _ a' w' h') (wpOpIn_round hnd hlo (h.2 i hi))⟩

theorem wpIn_region_heldR {S : World → Prop} {id : Nat} {a : Act} {w : World} (hm : P.follows .mixedOrders = true) (hnd : noDefer ops = true) (hlo : ¬ LetsOut Q) (hS : S w.drew)
    (h : S w.drew → wpAnyH P .any ops Q S ops.size (Array.replicate ops.size false) a w.drew) : (Code.region id ops true).wpIn (Fence.wide.inRound l) n P Q a w :=
  wpIn_region_any hm (wpAnyIn_round hnd hlo _ _ _ _ (wpAny_of_held _ _ _ _ (h hS)))

end
end Go.Proofs.Ythlfidbhldbedaa

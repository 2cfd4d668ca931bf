/- The iterator 'down': over the limbs from the highest to the lowest one. -/
import Derived.Test.YthlfidbhldbedaaRows
import Derived.Test.YthlfidbhldbedaaMem
import Derived.RangeFuncNested
import Derived.RangeFuncBound
import Derived.RangeFuncCalls
import Derived.RangeFuncLeaves
import Derived.RangeFuncWrites
import Derived.Shelf.Abstract
import Derived.Shelf.RegionOpen
import Derived.WalkKit
import Derived.OwnWalkIn
import Derived.TacticsInMore
import Derived.LoopNIn
import Derived.LoopIn
namespace Go.Proofs.Ythlfidbhldbedaa
open Go.RowKit Go.Shelf
attribute [local go_sem] Oper.semAt_some
/-- The places below m, from the highest to the lowest. -/
def downA (n : Nat) : (m : Nat) → m ≤ n → List { i : Nat // i < n }
  | 0, _ => []
  | m + 1, h => ⟨m, by omega⟩ :: downA n m (by omega)

def downAll (n : Nat) : List { i : Nat // i < n } := downA n n (Nat.le_refl n)

theorem downA_length (n : Nat) : ∀ (m : Nat) (h : m ≤ n), (downA n m h).length = m
  | 0, _ => rfl
  | m + 1, h => by rw [downA, List.length_cons, downA_length n m (by omega)]

/-- What one round is handed: the place and the limb. -/
def encD (l : List Nat) (x : { i : Nat // i < l.length }) : Array Value := #[.int .i64 (x.1 : Int), .int .u32 (l[x.1]?.getD 0 : Nat)]

set_option maxRecDepth 100000 in
set_option maxHeartbeats 2000000 in
theorem down1_in (F : Fence) (n : Nat) (hf : F.fn 101) (hro : F.round = none) (hn : 1 ≤ n) (Bs c : Nat) (A : Option Addr) (l : List Nat) (w : World) (hlen : l.length ≤ 35184372088832)
    (Kp : World → World → Prop) (Inv : World → Prop) (hI0 : ∀ W, Below w.heap.size w W → Inv W) (hIK : ∀ W W', Inv W → Kp W W' → Inv W')
    (hIr : ∀ W, Inv W → W.cell? ⟨Bs, 0, none⟩ = some (.slice A l.length c) ∧ Sl W A l c) :
    SeqStopsK F n Try.prog 101 #[.pointer (some ⟨Bs, 0, none⟩)] (encD l) Kp (fun ys => ys = downAll l.length) (fun pre => ∃ rest, pre ++ rest = downAll l.length) l.length w := fun lp J Jx W hW _ _ hY h0 => by
  have hc1 := (hIr W (hI0 W hW)).1
  refine callsIn_of_wp Try.func101 rfl hf ?_ hro
  simp only [Try.ntmps101, List.size_toArray, List.length_cons, List.length_nil, Nat.reduceAdd, Nat.reduceSub, Array.replicate_succ, Array.replicate_zero, List.push_toArray, List.append_toArray, List.nil_append, List.cons_append]
  gi_wp2
  gi_loopw [3] (fun i wr => ∃ (m : Nat) (hm : m ≤ l.length) (pre : List { i : Nat // i < l.length }), i = .int .i64 ((m : Int) - 1) ∧ pre ++ downA l.length m hm = downAll l.length ∧ J pre wr ∧ Inv wr)
    (fun i _ => (intOf i + 1).toNat)
  case atStart => exact ⟨l.length, Nat.le_refl _, [], rfl, rfl, h0, hI0 W hW⟩
  case round =>
    obtain ⟨m, hm, pre, rfl, hp, hJ, hb⟩ := hrel
    obtain ⟨hc2, hs2⟩ := hIr wr hb
    have Hs2 := Lib.hid hs2
    clear hs2
    cases m with
    | zero =>
      have hp2 : pre = downAll l.length := by simpa [downA] using hp
      have Hp := Lib.hid hp2
      clear hp hp2
      gi_wp2
      go_end0
      exact ⟨⟨_, rfl⟩, .inl ⟨pre, Hp.out, hJ⟩⟩
    | succ m =>
      have hpl : pre.length < l.length := by
        have := congrArg List.length hp
        rw [List.length_append, downA_length, downAll, downA_length] at this
        omega
      have hp2 : (pre ++ [⟨m, by omega⟩]) ++ downA l.length m (by omega) = downAll l.length := by
        rw [List.append_assoc]; exact hp
      obtain ⟨b, o, rfl, hx⟩ := Hs2.out.rd.at_ (k := m) (by omega)
      obtain ⟨fn, tmps, assign, body, hy, hR⟩ := hY pre ⟨m, by omega⟩ wr hJ hpl
      have Hp := Lib.hid hp2
      clear hp hp2
      dsimp only [encD] at hy hR
      gi_wp2
      refine hR.mono ?_
      rintro e W3 (⟨rfl, hJ3, hk3⟩ | ⟨rfl, hJx3⟩)
      · gi_wp2
        go_roundw
        case rel => exact ⟨m, by omega, _, by go_num, Hp.out, hJ3, hIK _ _ hb hk3⟩
        case measure => simp [intOf]
      · gi_wp2
        refine bodyPost_ret (results_none rfl _ _ _) rfl ?_
        exact ⟨⟨_, rfl⟩, .inr ⟨_, ⟨_, Hp.out⟩, hJx3⟩⟩

/-- .. where the body of a round writes nothing that lay before the loop. -/
theorem down1_below (F : Fence) (n : Nat) (hf : F.fn 101) (hro : F.round = none) (hn : 1 ≤ n) (Bs c : Nat) (A : Option Addr) (l : List Nat) (w : World) (hs : Sl w A l c)
    (hBs : w.cell? ⟨Bs, 0, none⟩ = some (.slice A l.length c)) :
    SeqStopsK F n Try.prog 101 #[.pointer (some ⟨Bs, 0, none⟩)] (encD l) (Below w.heap.size) (fun ys => ys = downAll l.length) (fun pre => ∃ rest, pre ++ rest = downAll l.length) l.length w :=
  down1_in F n hf hro hn Bs c A l w hs.len _ (Below w.heap.size w) (fun _ h => h) (fun _ _ h k => h.trans k) (fun _ h => ⟨kept_cell h hBs, hs.below h⟩)

set_option maxHeartbeats 1000000 in
theorem down_in (F : Fence) (n : Nat) (hf : F.fn 95) (hro : F.round = none) (a : Option Addr) (len cap : Nat) (w : World) :
    CallsIn F n Try.prog 95 #[.slice a len cap] w fun e w' => e = .returned (.func (.func 101) #[] #[.pointer (some ⟨w.heap.size, 0, none⟩)]) ∧ w' = w.alloc (.cells #[.slice a len cap] 22) := by
  refine callsIn_of_wp Try.func95 rfl hf ?_ hro
  simp only [Try.ntmps95, List.size_toArray, List.length_cons, List.length_nil, Nat.reduceAdd, Nat.reduceSub, Array.replicate_succ, Array.replicate_zero, List.push_toArray, List.append_toArray, List.nil_append, List.cons_append]
  gi_wp2
  go_ret
  exact ⟨rfl, rfl⟩

end Go.Proofs.Ythlfidbhldbedaa

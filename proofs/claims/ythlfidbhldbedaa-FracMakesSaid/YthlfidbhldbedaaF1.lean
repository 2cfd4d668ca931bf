/- Walks: frac's small functions: must, want, one, zero, same; catch, entered where a frame returns and where it panics with a fall. -/
import Derived.Test.YthlfidbhldbedaaW4
import Derived.Test.YthlfidbhldbedaaW7
import Derived.Test.YthlfidbhldbedaaFMem
import Derived.Test.YthlfidbhldbedaaFMath
import Derived.Defers
import Derived.Recover
import Derived.Laws.Pointers
namespace Go.Proofs.Ythlfidbhldbedaa
open Go.RowKit
attribute [local go_sem ↓] Go.wp_at_zero Go.wp_at_succ
/-- A fall as it leaves a call. -/
@[reducible] def fallE (k : Int) : Ending := .panicked [{ v := .iface 84 (.agg #[.int .i64 k]), recovered := false }]

theorem must_ok (n : Bool) (A : Option Addr) (m c : Nat) (w : World) :
    Calls Try.prog 43 #[.agg #[.bool n, .slice A m c], .int .i64 0] w fun e w' => e = .returned (.agg #[.bool n, .slice A m c]) ∧ Below w.heap.size w w' := by
  go_enter Try.func43, Try.ntmps43
  go_wp2
  refine bodyPost_ret (v := .agg #[.bool n, .slice A m c]) (by simp [results, Try.results43, go_sem]) rfl ⟨rfl, ?_⟩
  exact blw2 _ _ _

theorem must_bad (n : Bool) (A : Option Addr) (m c : Nat) (k : Int) (hk : k ≠ 0) (w : World) :
    Calls Try.prog 43 #[.agg #[.bool n, .slice A m c], .int .i64 k] w fun e w' => e = fallE k ∧ Below w.heap.size w w' := by
  have hb : (k == 0) = false := by rw [beq_eq_false_iff_ne]; exact hk
  go_enter Try.func43, Try.ntmps43
  go_wp2
  exact ⟨rfl, rfl, blw2 _ _ _⟩

theorem want_ok (w : World) :
    Calls Try.prog 29 #[.int .i64 0] w fun e w' => e = .returned (.tuple #[]) ∧ Below w.heap.size w w' := by
  go_enter Try.func29, Try.ntmps29
  go_wp2
  go_end0
  exact ⟨rfl, Below.refl _ _⟩

theorem want_bad (k : Int) (hk : k ≠ 0) (w : World) :
    Calls Try.prog 29 #[.int .i64 k] w fun e w' => e = fallE k ∧ Below w.heap.size w w' := by
  have hb : (k == 0) = false := by rw [beq_eq_false_iff_ne]; exact hk
  go_enter Try.func29, Try.ntmps29
  go_wp2
  exact ⟨rfl, rfl, Below.refl _ _⟩

theorem one_any (w : World) : Calls Try.prog 37 #[] w (WRes1 (wOf 1) w) := by
  go_enter Try.func37, Try.ntmps37
  go_wp2_with fail
  refine (from_any 1 _ (by omega) (by omega)).mono ?_
  rintro e w1 ⟨A, c, rfl, hs, hb⟩
  obtain ⟨r0, r1⟩ : Cw w1 w.heap.size false none 0 0 := ⟨kept_cell hb (by go_simp), kept_cell hb (by go_simp)⟩
  obtain ⟨f0, f1⟩ : Fw w1 w.heap.size := ⟨(hb.frozen (by simp <;> omega)).trans (by go_simp), (hb.frozen (by simp <;> omega)).trans (by go_simp)⟩
  have Hs := Lib.hid hs
  have Hb := Lib.hid (below_mono (blw1 _ _) hb)
  clear hb hs
  go_wp2
  exact bodyPost_ret (v := .agg #[.bool (wOf 1).1, .slice A (wOf 1).2.length c]) (by simp [results, Try.results37, go_sem, r0, r1]) rfl ⟨A, c, rfl, Hs.out.setW r0 r1 _ _, below_setW Hb.out (by omega) _ _⟩

theorem zero_any (n : Bool) (A : Option Addr) (l : List Nat) (c : Nat) (w : World) :
    Calls Try.prog 31 #[.agg #[.bool n, .slice A l.length c]] w fun e w' => e = .returned (.bool ((l.length : Int) == 0)) ∧ Below w.heap.size w w' := by
  go_enter Try.func31, Try.ntmps31
  go_wp2
  go_ret
  exact ⟨rfl, blw1 _ _⟩

theorem fsame_any (n1 n2 : Bool) (A1 A2 : Option Addr) (l1 l2 : List Nat) (c1 c2 : Nat) (w : World) (hs1 : Sl w A1 l1 c1) (hs2 : Sl w A2 l2 c2) :
    Calls Try.prog 36 #[.agg #[.bool n1, .slice A1 l1.length c1], .agg #[.bool n2, .slice A2 l2.length c2]] w fun e w' => e = .returned (.bool ((cmpS n1 l1 n2 l2).1 == 0)) ∧ Below w.heap.size w w' := by
  have Hs1 := Lib.hid hs1
  have Hs2 := Lib.hid hs2
  clear hs1 hs2
  obtain ⟨r, hr⟩ : ∃ r, r = cmpS n1 l1 n2 l2 := ⟨_, rfl⟩
  rw [← hr]
  have Hr := Lib.hid hr
  clear hr
  go_enter Try.func36, Try.ntmps36
  go_wp2_with fail
  refine (cmp_any _ _ _ _ _ _ _ _ _ ((Hs1.out.alloc _).alloc _) ((Hs2.out.alloc _).alloc _)).mono ?_
  rw [← Hr.out]
  rintro e w1 ⟨rfl, hb⟩
  have Hb := Lib.hid (below_mono (blw2 _ _ _) hb)
  clear hb
  go_wp2
  go_ret
  exact ⟨rfl, Hb.out⟩

theorem as_fall (v : Value) (w : World) : (Instr.typeAssert (.iface 84 v) 20 84 true).run Try.prog w = .ok (.tuple #[v, .bool true]) w := by kernel_rfl

theorem catch_idle (p : Addr) (w : World) :
    CallsD Try.prog 28 #[.pointer (some p)] .returning w fun e u' w' => e = .returned (.tuple #[]) ∧ u' = .returning ∧ w' = w := by
  refine callsD_of_wpS Try.func28 rfl fun c₀ cs hu => ?_
  apply wpS_seq
  apply wpS_region
  simp [wpOpsS, go_sem, recoverD, hu, Try.ntmps28, Exit.thenS]
  refine wpS_of_wp ?_
  go_wp2
  cases c₀
  simp_all [bodyPostS, results, Try.results28]

set_option maxRecDepth 100000 in
set_option maxHeartbeats 1000000 in
theorem catch_fall (g : Nat) (x k : Int) (older : List PanicEntry) (w : World) (h : C1 w g (.int .i64 x)) :
    CallsD Try.prog 28 #[.pointer (some ⟨g, 0, none⟩)] (.panicking ({ v := .iface 84 (.agg #[.int .i64 k]), recovered := false } :: older)) w fun e u' w' =>
      e = .returned (.tuple #[]) ∧ u' = .panicking ({ v := .iface 84 (.agg #[.int .i64 k]), recovered := true } :: older) ∧ ∃ o, w' = (w.setCell ⟨g, 0, none⟩ (.int .i64 k)).alloc o := by
  have hg := lt_of_cell h.1
  have hc : (w.alloc (.cells #[.int .i64 k] 84)).cell? ⟨g, 0, none⟩ = some (.int .i64 x) := kept_cell (blw1 _ _) h.1
  have hz : (w.alloc (.cells #[.int .i64 k] 84)).frozen? ⟨g, 0, none⟩ = false := kept_frozen (blw1 _ _) h.1 h.2
  refine callsD_of_wpS Try.func28 rfl fun c₀ cs hu => ?_
  apply wpS_seq
  apply wpS_region
  simp [wpOpsS, go_sem, recoverD, hu, Try.ntmps28, Exit.thenS]
  refine wpS_of_wp ?_
  clear hu h
  have Has := as_fall
  have harr : (#[Value.pointer (some ⟨g, 0, none⟩)] ++ (Array.replicate 14 undef).setIfInBounds 4 (Value.iface 84 (Value.agg #[Value.int IntKind.i64 k])) : Array Value) = #[Value.pointer (some ⟨g, 0, none⟩), undef, undef, undef, undef, Value.iface 84 (Value.agg #[Value.int IntKind.i64 k]), undef, undef, undef, undef, undef, undef, undef, undef, undef] := rfl
  rw [harr]
  clear harr
  go_wp2_with fail
  cases c₀
  simp [bodyPostS, results, Try.results28]
  exact ⟨_, rfl⟩

end Go.Proofs.Ythlfidbhldbedaa

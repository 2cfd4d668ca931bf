/- Walks: comparing numbers: to, Cmp, Sign, the reference's Compared, Cmp, Sign, Same; Twin. -/
import Derived.Test.YthlfidbhldbedaaW2
import Derived.Test.YthlfidbhldbedaaMath
import Derived.Test.YthlfidbhldbedaaCmp
import Derived.Test.YthlfidbhldbedaaRCmp
namespace Go.Proofs.Ythlfidbhldbedaa
open Go.RowKit
set_option maxHeartbeats 1000000 in
theorem to_any (n1 n2 : Bool) (A1 A2 : Option Addr) (l1 l2 : List Nat) (c1 c2 : Nat) (w : World) (hs1 : Sl w A1 l1 c1) (hs2 : Sl w A2 l2 c2) :
    Calls Try.prog 75 #[.agg #[.bool n1, .slice A1 l1.length c1], .agg #[.bool n2, .slice A2 l2.length c2]] w fun e w' => e = .returned (.int .i64 (cmpW n1 l1 n2 l2)) ∧ Below w.heap.size w w' := by
  have Hs1 := Lib.hid hs1
  have Hs2 := Lib.hid hs2
  clear hs1 hs2
  cases n1 <;> cases n2
  · have hr : cmpW false l1 false l2 = cmpL l1 l2 := rfl
    rw [hr]
    clear hr
    go_enter Try.func75, Try.ntmps75
    go_wp2_with fail
    refine (compare_any _ _ _ _ _ _ _ ((Hs1.out.alloc _).alloc _) ((Hs2.out.alloc _).alloc _)).mono ?_
    rintro e w1 ⟨rfl, hb⟩
    have Hb := Lib.hid (below_mono (blw2 _ _ _) hb)
    clear hb
    go_wp2
    go_ret
    exact ⟨rfl, Hb.out⟩
  · go_enter Try.func75, Try.ntmps75
    go_wp2_with fail
    go_ret
    exact ⟨rfl, blw2 _ _ _⟩
  · go_enter Try.func75, Try.ntmps75
    go_wp2_with fail
    go_ret
    exact ⟨rfl, blw2 _ _ _⟩
  · have hr : cmpW true l1 true l2 = cmpL l2 l1 := rfl
    rw [hr]
    clear hr
    go_enter Try.func75, Try.ntmps75
    go_wp2_with fail
    refine (compare_any _ _ _ _ _ _ _ ((Hs2.out.alloc _).alloc _) ((Hs1.out.alloc _).alloc _)).mono ?_
    rintro e w1 ⟨rfl, hb⟩
    have Hb := Lib.hid (below_mono (blw2 _ _ _) hb)
    clear hb
    go_wp2
    go_ret
    exact ⟨rfl, Hb.out⟩

set_option maxHeartbeats 1000000 in
theorem rcompared_any (n1 n2 : Bool) (A1 A2 : Option Addr) (l1 l2 : List Nat) (c1 c2 : Nat) (w : World) (hs1 : Sl w A1 l1 c1) (hs2 : Sl w A2 l2 c2) :
    Calls Try.prog 59 #[.agg #[.bool n1, .slice A1 l1.length c1], .agg #[.bool n2, .slice A2 l2.length c2]] w fun e w' => e = .returned (.int .i64 (cmpW n1 l1 n2 l2)) ∧ Below w.heap.size w w' := by
  have Hs1 := Lib.hid hs1
  have Hs2 := Lib.hid hs2
  clear hs1 hs2
  cases n1 <;> cases n2
  · have hr : cmpW false l1 false l2 = cmpL l1 l2 := rfl
    rw [hr]
    clear hr
    go_enter Try.func59, Try.ntmps59
    go_wp2_with fail
    refine (rcompare_any _ _ _ _ _ _ _ ((Hs1.out.alloc _).alloc _) ((Hs2.out.alloc _).alloc _)).mono ?_
    rintro e w1 ⟨rfl, n, rfl⟩
    go_wp2
    go_ret
    exact ⟨rfl, below_drewN (blw2 _ _ _) _⟩
  · go_enter Try.func59, Try.ntmps59
    go_wp2_with fail
    go_ret
    exact ⟨rfl, blw2 _ _ _⟩
  · go_enter Try.func59, Try.ntmps59
    go_wp2_with fail
    go_ret
    exact ⟨rfl, blw2 _ _ _⟩
  · have hr : cmpW true l1 true l2 = cmpL l2 l1 := rfl
    rw [hr]
    clear hr
    go_enter Try.func59, Try.ntmps59
    go_wp2_with fail
    refine (rcompare_any _ _ _ _ _ _ _ ((Hs2.out.alloc _).alloc _) ((Hs1.out.alloc _).alloc _)).mono ?_
    rintro e w1 ⟨rfl, n, rfl⟩
    go_wp2
    go_ret
    exact ⟨rfl, below_drewN (blw2 _ _ _) _⟩

def sameB (n1 : Bool) (l1 : List Nat) (n2 : Bool) (l2 : List Nat) : Bool := (n1 == n2) && decide (l1 = l2)

set_option maxHeartbeats 1000000 in
theorem same_any (n1 n2 : Bool) (A1 A2 : Option Addr) (l1 l2 : List Nat) (c1 c2 : Nat) (w : World) (hs1 : Sl w A1 l1 c1) (hs2 : Sl w A2 l2 c2) :
    Calls Try.prog 39 #[.agg #[.bool n1, .slice A1 l1.length c1], .agg #[.bool n2, .slice A2 l2.length c2]] w fun e w' => e = .returned (.bool (sameB n1 l1 n2 l2)) ∧ Below w.heap.size w w' := by
  have Hs1 := Lib.hid hs1
  have Hs2 := Lib.hid hs2
  clear hs1 hs2
  by_cases hn : n1 = n2
  · subst hn
    have hr : sameB n1 l1 n1 l2 = (cmpL l1 l2 == 0) := by
      unfold sameB
      rw [beq_self_eq_true, Bool.true_and, Bool.eq_iff_iff, decide_eq_true_iff, beq_iff_eq, cmpL_zero]
    rw [hr]
    clear hr
    have hb1 : (n1 == n1) = true := beq_self_eq_true n1
    go_enter Try.func39, Try.ntmps39
    go_wp2_with fail
    refine (rcompare_any _ _ _ _ _ _ _ ((Hs1.out.alloc _).alloc _) ((Hs2.out.alloc _).alloc _)).mono ?_
    rintro e w1 ⟨rfl, n, rfl⟩
    go_wp2
    go_ret
    exact ⟨rfl, below_drewN (blw2 _ _ _) _⟩
  · have hr : sameB n1 l1 n2 l2 = false := by simp [sameB, hn]
    rw [hr]
    clear hr
    have hb1 : (n1 == n2) = false := by simpa using hn
    go_enter Try.func39, Try.ntmps39
    go_wp2_with fail
    go_ret
    exact ⟨rfl, blw2 _ _ _⟩

end Go.Proofs.Ythlfidbhldbedaa

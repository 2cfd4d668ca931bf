/- The walk of the law FracMakes. -/
import Derived.Test.YthlfidbhldbedaaF3
import Derived.Deep.RegionHeld3
namespace Go.Proofs.Ythlfidbhldbedaa
open Go.RowKit
attribute [local go_sem ↓] Go.wp_at_zero Go.wp_at_succ
theorem fsame_self (n1 n2 : Bool) (A1 A2 A3 A4 : Option Addr) (l1 l2 : List Nat) (c1 c2 c3 c4 : Nat) (w : World) (hs1 : Sl w A1 l1 c1) (hs2 : Sl w A2 l2 c2) (hs3 : Sl w A3 l1 c3) (hs4 : Sl w A4 l2 c4) :
    Calls Try.prog 12 #[.agg #[.bool n1, .slice A1 l1.length c1, .bool n2, .slice A2 l2.length c2], .agg #[.bool n1, .slice A3 l1.length c3, .bool n2, .slice A4 l2.length c4]] w fun e w' => e = .returned (.bool true) ∧ Below w.heap.size w w' := by
  have h := fsameF_any n1 n2 n1 n2 A1 A2 A3 A4 l1 l2 l1 l2 c1 c2 c3 c4 w hs1 hs2 hs3 hs4
  rw [show (sameB n1 l1 n1 l1 && sameB n2 l2 n2 l2) = true by simp [sameB]] at h
  exact h

end Go.Proofs.Ythlfidbhldbedaa

/- Walks: Cmp, Sign, of the program and of the reference; Twin. -/
import Derived.Test.YthlfidbhldbedaaDoorW6
import Derived.Test.YthlfidbhldbedaaDoorW2
namespace Go.Proofs.YthlfidbhldbedaaDoor
open Go.RowKit
attribute [local go_sem ↓] Go.wp_at_zero Go.wp_at_succ
theorem Wcs.two {w : World} {b : Nat} {n1 n2 : Bool} {A1 A2 : Option Addr} {l1 l2 : List Nat} {c1 c2 : Nat} (hs1 : Sl w A1 l1 c1) (hs2 : Sl w A2 l2 c2) (hb : b = w.heap.size) :
    Wcs (w.alloc (.cells #[.bool n1, .slice A1 l1.length c1, .bool n2, .slice A2 l2.length c2] 24)) b [⟨n1, A1, l1, c1⟩, ⟨n2, A2, l2, c2⟩] := by
  subst hb
  intro i v hv
  match i, hv with
  | 0, hv =>
    simp only [List.getElem?_cons_zero, Option.some.injEq] at hv
    subst hv
    exact ⟨by simp, by simp, hs1.alloc _⟩
  | 1, hv =>
    simp only [List.getElem?_cons_succ, List.getElem?_cons_zero, Option.some.injEq] at hv
    subst hv
    exact ⟨by simp, by simp, hs2.alloc _⟩

theorem chkW_two (v u : WV) : chkW [v, u] = chk2 v.neg v.l u.neg u.l := rfl

end Go.Proofs.YthlfidbhldbedaaDoor

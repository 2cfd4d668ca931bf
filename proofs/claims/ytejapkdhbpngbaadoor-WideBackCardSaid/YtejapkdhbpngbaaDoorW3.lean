/- Walks: Neg, Abs. -/
import Derived.Test.YtejapkdhbpngbaaDoorW2
import Derived.Test.YtejapkdhbpngbaaDoorMem
namespace Go.Proofs.YtejapkdhbpngbaaDoor
open Go.RowKit
attribute [local go_sem ↓] Go.wp_at_zero Go.wp_at_succ
theorem Wcs.one {w : World} {b : Nat} {neg : Bool} {A : Option Addr} {l : List Nat} {c : Nat} (hs : Sl w A l c) (hb : b = w.heap.size) : Wcs (w.alloc (.cells #[.bool neg, .slice A l.length c] 24)) b [⟨neg, A, l, c⟩] := by
  subst hb
  intro i v hv
  match i, hv with
  | 0, hv =>
    simp only [List.getElem?_cons_zero, Option.some.injEq] at hv
    subst hv
    exact ⟨by simp, by simp, hs.alloc _⟩

theorem chkW_one (v : WV) : chkW [v] = chk v.neg v.l := rfl

end Go.Proofs.YtejapkdhbpngbaaDoor

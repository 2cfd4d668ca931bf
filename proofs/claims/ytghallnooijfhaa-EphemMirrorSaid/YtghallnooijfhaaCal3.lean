import Derived.Test.YtghallnooijfhaaMg9
import Derived.Test.YtghallnooijfhaaMg5
import Derived.Test.YtghallnooijfhaaMg8
import Derived.Test.YtghallnooijfhaaW8
namespace Go.Proofs.Ytghallnooijfhaa
open Go.RowKit
attribute [local go_sem ↓] Go.wp_at_zero Go.wp_at_succ
theorem BlkV.but {w w' : World} {g g' : Nat} {t : TypeId} {cs : Array Value} (h : BlkV w g t cs) (hb : But g' w w') (hne : g ≠ g') : BlkV w' g t cs := (hb.block g h.lt hne).trans h

theorem Sl.st {w w' : World} {A : Option Addr} {l : List Nat} {c g : Nat} {t : TypeId} {x : Int} (h : Sl w A l c) (k : BlkV w g t #[.int .i64 x]) (hb : But g w w') : Sl w' A l c := by
  refine ⟨fun hl => ?_, h.lim, h.le, h.len⟩
  obtain ⟨b, o, e, hc⟩ := h.rd hl
  refine ⟨b, o, e, fun i hi => ?_⟩
  refine hb.cell (hc i hi) (fun e2 => ?_)
  have e2 : b = g := e2
  subst e2
  have h1 := (k.cell (o + i)).symm.trans (hc i hi)
  rcases Nat.eq_zero_or_pos (o + i) with h0 | h0
  · rw [h0] at h1; simp at h1
  · rw [Array.getElem?_eq_none (by simp; omega)] at h1; cases h1

theorem SlI.but {w w' : World} {B g : Nat} {A : Option Addr} {l : List Int} {c : Nat} (h : SlI w B A l c) (hb : But g w w') (hg : B ≤ g) : SlI w' B A l c :=
  ⟨fun hl => by
    obtain ⟨b, o, e, hB, hc⟩ := h.rd hl
    exact ⟨b, o, e, hB, fun i v hv => hb.cell (hc i v hv) (by show b ≠ g; omega)⟩, h.lim, h.le, h.len⟩

end Go.Proofs.Ytghallnooijfhaa

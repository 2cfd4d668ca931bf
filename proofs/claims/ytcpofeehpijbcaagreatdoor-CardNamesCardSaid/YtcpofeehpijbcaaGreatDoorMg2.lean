import Derived.Test.YtcpofeehpijbcaaGreatDoorFr1
import Derived.Test.YtcpofeehpijbcaaGreatDoorCd3
import Derived.Laws.MakeOwn
import Derived.Laws.CopyRow
import Derived.Laws.IdiomCopy
import Derived.Laws.IdiomStrings
namespace Go.Proofs.YtcpofeehpijbcaaGreatDoor
open Go.RowKit Go.Lib Go.Shelf
attribute [local go_sem ↓] Go.wp_at_zero Go.wp_at_succ
def zb (N:Nat):Array Value:=(Lib.byteCells (List.replicate N 0)).toArray
def BarE (W:World):Prop:=W.cell? ⟨0,0,none⟩=some (.int .i64 58)∧W.cell? ⟨0,1,none⟩=some (.int .i64 64)∧W.cell? ⟨0,2,none⟩=some (.int .i64 91)∧W.cell? ⟨0,3,none⟩=some (.int .i64 96)
theorem BarE.keep {w w':World} (h:BarE w) (hb:Below w.heap.size w w'):BarE w':=⟨q0b hb h.1,q0b hb h.2.1,q0b hb h.2.2.1,q0b hb h.2.2.2⟩
end Go.Proofs.YtcpofeehpijbcaaGreatDoor
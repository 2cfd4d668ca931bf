import Derived.Test.YtcpofeehpijbcaaGreatDoorFr1
import Derived.Test.YtcpofeehpijbcaaGreatDoorCd3
import Derived.Laws.MakeOwn
import Derived.Laws.CopyRow
import Derived.Laws.IdiomCopy
namespace Go.Proofs.YtcpofeehpijbcaaGreatDoor
open Go.RowKit Go.Lib Go.Shelf
attribute [local go_sem ↓] Go.wp_at_zero Go.wp_at_succ
def zb (N:Nat):Array Value:=(Lib.byteCells (List.replicate N 0)).toArray
end Go.Proofs.YtcpofeehpijbcaaGreatDoor
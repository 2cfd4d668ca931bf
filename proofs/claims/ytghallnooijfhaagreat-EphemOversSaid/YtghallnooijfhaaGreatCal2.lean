import Derived.Test.YtghallnooijfhaaGreatMg1
import Derived.Test.YtghallnooijfhaaGreatW1
import Derived.BigQuiet
import Derived.Deep.QuietTactic
namespace Go.Proofs.YtghallnooijfhaaGreat
open Go.RowKit
attribute [local go_sem ↓] Go.wp_at_zero Go.wp_at_succ
structure FD where
 W:Int
 H:Int
 A:Option Addr
 l:List Int
 c:Nat
end Go.Proofs.YtghallnooijfhaaGreat
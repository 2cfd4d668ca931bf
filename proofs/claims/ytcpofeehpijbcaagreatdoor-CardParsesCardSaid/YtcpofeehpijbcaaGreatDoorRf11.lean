import Derived.Test.YtcpofeehpijbcaaGreatDoorMg1
import Derived.Test.YtcpofeehpijbcaaGreatDoorRf4
namespace Go.Proofs.YtcpofeehpijbcaaGreatDoor
open Go.RowKit Go.Lib Go.Shelf
attribute [local go_sem ↓] Go.wp_at_zero Go.wp_at_succ
def chkR1 (b:Int) (sh raw:List Int) (n:Nat):Bool:=((b == 8 || b == 16 || b == 32 || b == 64) && decide (0≤szR sh)) && ((raw.length:Int) == szR sh && decide (n≤150))
def okK9 (c:CD):Bool:=chkC c && !resB c.k
def chkR (b:Int) (sh raw:List Int) (cs:List CD):Bool:=chkR1 b sh raw cs.length && (raw.all (fitK b) && cs.all okK9)
end Go.Proofs.YtcpofeehpijbcaaGreatDoor
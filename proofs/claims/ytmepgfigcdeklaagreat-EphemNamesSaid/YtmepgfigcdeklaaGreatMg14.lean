import Derived.Test.YtmepgfigcdeklaaGreatRegI
import Derived.Test.YtmepgfigcdeklaaGreatMg9
import Derived.Deep.CutRange
import Derived.Deep.RegionHeld
namespace Go.Proofs.YtmepgfigcdeklaaGreat
open Go.RowKit
attribute [local go_sem ↓] Go.wp_at_zero Go.wp_at_succ
def SG.cd (s:SG) (k:Nat):Nat:=if k=0 then s.c0 else if k=1 then s.c1 else s.c2
theorem GoodK.zero (bs:List BG):GoodK bs 0:=fun j hj h=>by omega
end Go.Proofs.YtmepgfigcdeklaaGreat
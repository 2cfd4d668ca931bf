import Derived.Test.YtcpofeehpijbcaaGreatDoorCdM
namespace Go.Proofs.YtcpofeehpijbcaaGreatDoor
open Go.Lib
def w4:List UInt8→Nat
 | a :: b :: c :: d :: l=>a.toNat * 16777216+b.toNat * 65536+c.toNat * 256+d.toNat+w4 l
 | _=>0
end Go.Proofs.YtcpofeehpijbcaaGreatDoor
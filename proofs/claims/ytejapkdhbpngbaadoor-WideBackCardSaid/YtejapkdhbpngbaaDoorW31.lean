/- wide.divide answers quotient and remainder. -/
import Derived.Test.YtejapkdhbpngbaaDoorW30
namespace Go.Proofs.YtejapkdhbpngbaaDoor
theorem divide_any (A1 A2 : Option Addr) (l1 l2 : List Nat) (c1 c2 : Nat) (w : World) (hs1 : Sl w A1 l1 c1) (hs2 : Sl w A2 l2 c2) (k1 : Canon l1) (k2 : Canon l2) (hne : l2 ≠ []) (hlen : l1.length ≤ 100000) :
    Calls Tryd.prog 55 #[.slice A1 l1.length c1, .slice A2 l2.length c2] w (LRes2 (limbs (val l1 / val l2)) (limbs (val l1 % val l2)) w) := by
  by_cases hv : val l1 < val l2
  · exact divide_small A1 A2 l1 l2 c1 c2 w hs1 hs2 k1 k2 hv
  · match l2, hne with
    | [d], _ => exact divide_one A1 A2 l1 d c1 c2 w hs1 hs2 k1 k2 (by omega) hlen
    | a :: b :: l, _ => exact divide_long A1 A2 l1 (a :: b :: l) c1 c2 w hs1 hs2 k1 k2 (by omega) (by simp) hlen

end Go.Proofs.YtejapkdhbpngbaaDoor

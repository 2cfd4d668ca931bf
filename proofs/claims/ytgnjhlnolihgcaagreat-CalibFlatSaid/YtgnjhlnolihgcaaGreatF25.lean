import Derived.Test.YtgnjhlnolihgcaaGreatF16
import Derived.Deep.RegionHeld3
namespace Go.Proofs.YtgnjhlnolihgcaaGreat
open Go.RowKit
attribute [local go_sem ↓] Go.wp_at_zero Go.wp_at_succ
theorem part_end {r:(Bool × List Nat) × (Bool × List Nat)} {w w3:World} {g c c':Nat} {A A':Option Addr} {n1 n2:Bool} {A1 A2:Option Addr} {m1 c1 m2 c2:Nat} (hs:Sl w3 A r.1.2 c) (hs':Sl w3 A' r.2.2 c') (q:Cf w3 g n1 A1 m1 c1 n2 A2 m2 c2) (hb:Below w.heap.size w w3) (hg:w.heap.size≤g) (x y z u:Value) (o:Obj) :
  FRes1 r w (.returned (.agg #[.bool r.1.1,.slice A r.1.2.length c,.bool r.2.1,.slice A' r.2.2.length c'])) (((((w3.setCell ⟨g,0,none⟩ x).setCell ⟨g,1,none⟩ y).setCell ⟨g,2,none⟩ z).setCell ⟨g,3,none⟩ u).alloc o):=
 ⟨A,c,A',c',rfl,(hs.setF q _ _ _ _).alloc _,(hs'.setF q _ _ _ _).alloc _,(below_setF hb hg _ _ _ _).alloc (by have:=hb.size; simp [World.setCell]; omega) _⟩
end Go.Proofs.YtgnjhlnolihgcaaGreat
namespace Go.Proofs.YtgnjhlnolihgcaaGreat
open Go.Lib
theorem fit_small {a:Int} (h:a.natAbs≤10 ^ 10):fitZ a:=fit_ten h (by omega)
theorem low {a b:Int} (h:0 < b) (ha:a.natAbs≤10 ^ 10) (hb:b.natAbs≤10 ^ 10) (g:Int.gcd a b=1):VF (wOf a).1 (wOf a).2 (wOf b).1 (wOf b).2 a b:=
 ⟨vz_wOf (fit_small ha),vz_wOf (fit_small hb),h,g⟩
end Go.Proofs.YtgnjhlnolihgcaaGreat
import Derived.Test.YtmepgfigcdeklaaGreatEphC
import Derived.Test.YtmepgfigcdeklaaGreatW1
set_option maxHeartbeats 2000000
set_option maxRecDepth 100000
namespace Go.Proofs.YtmepgfigcdeklaaGreat
open Go.RowKit
attribute [local go_sem ↓] Go.wp_at_zero Go.wp_at_succ
theorem outside_any (n m:Int) (h0:0≤m) (h1:m≤9223372036854775807) (w:World) :
  Calls Tryz.prog 91 #[.int .i64 n,.int .i64 m] w fun e w'=>e=.returned (.bool (outB n m))∧Below w.heap.size w w':=by
 have N:Hid (outB n m=(decide (n < -m) || decide (m < n))):=rfl;by_cases ha:n < -m
 ·have t1:decide (n < -m)=true:=decide_eq_true ha;have E:Hid (outB n m=true):=(by rw [Hid,N.out,t1]; rfl);clear N ha;go_enter Tryz.func91,Tryz.ntmps91
  go_wp2
  go_ret
  exact ⟨by rw [E.out]; rfl,Below.refl _ _⟩
 ·have t1:decide (n < -m)=false:=decide_eq_false ha;by_cases hb:m < n
  ·have t2:decide (m < n)=true:=decide_eq_true hb;have E:Hid (outB n m=true):=(by rw [Hid,N.out,t1,t2]; rfl);clear N ha hb;go_enter Tryz.func91,Tryz.ntmps91
   go_wp2
   go_ret
   exact ⟨by rw [E.out]; rfl,Below.refl _ _⟩
  ·have t2:decide (m < n)=false:=decide_eq_false hb;have E:Hid (outB n m=false):=(by rw [Hid,N.out,t1,t2]; rfl);clear N ha hb;go_enter Tryz.func91,Tryz.ntmps91
   go_wp2
   go_ret
   exact ⟨by rw [E.out]; rfl,Below.refl _ _⟩
end Go.Proofs.YtmepgfigcdeklaaGreat
import Derived.Test.YtcpofeehpijbcaaGreatDoorCd2
import Derived.IntWalk
import Derived.Laws.BitsAllLaws
namespace Go.Proofs.YtcpofeehpijbcaaGreatDoor
open Go.RowKit Go.Lib Go.Shelf
attribute [local go_sem ↓] Go.wp_at_zero Go.wp_at_succ
theorem idx_str (s:List UInt8) (i:Nat) (h:i < s.length) (j:Int) (e:j=(i:Int)) (W:World):(Instr.index 9 (.string ⟨s.toArray⟩) (.int .i64 j)).run Tryz.prog W=.ok (.int .u8 (s[i]'h).toNat) W:=by
 subst e;rw [run_index_string _ _ _ _ _ (by kernel_rfl),dif_pos ⟨by omega,by show ((i:Int)) < (s.toArray.size:Int); simp; omega⟩];rfl
end Go.Proofs.YtcpofeehpijbcaaGreatDoor
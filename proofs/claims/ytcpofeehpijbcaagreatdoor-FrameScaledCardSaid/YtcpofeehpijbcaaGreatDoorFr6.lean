import Derived.Test.YtcpofeehpijbcaaGreatDoorMg3
set_option maxHeartbeats 4000000
set_option maxRecDepth 100000
namespace Go.Proofs.YtcpofeehpijbcaaGreatDoor
open Go.RowKit Go.Lib Go.Shelf
attribute [local go_sem ↓] Go.wp_at_zero Go.wp_at_succ
theorem small0 (w:World):Calls Tryz.prog 203 #[.int .i64 0] w fun e w'=>e=.returned (.string ⟨#[48]⟩)∧w'=w:=by
 have h:=Tryz.internal_strconv_small 0 (by omega) w;have e:Lib.decDigits 0=[48]:=(by decide +kernel);rw [e] at h;exact h
theorem ifmt0 (w:World):Calls Tryz.prog 179 #[.int .u64 0,.int .i64 10] w fun e w'=>e=.returned (.string ⟨#[48]⟩)∧Below w.heap.size w w':=by
 have SM:=Lib.hid small0;go_enter Tryz.func179,Tryz.ntmps179
 go_wp2_with fail
 refine (SM.out _).mono ?_;rintro e w1 ⟨rfl,rfl⟩;go_wp2
 go_ret
 exact ⟨rfl,Below.refl _ _⟩
theorem fmt0 (w:World):Calls Tryz.prog 139 #[.int .u64 0,.int .i64 10] w fun e w'=>e=.returned (.string ⟨#[48]⟩)∧Below w.heap.size w w':=by
 have SM:=Lib.hid ifmt0;go_enter Tryz.func139,Tryz.ntmps139
 go_wp2_with fail
 refine (SM.out _).mono ?_;rintro e w1 ⟨rfl,hb⟩;go_wp2
 go_ret
 exact ⟨rfl,hb⟩
end Go.Proofs.YtcpofeehpijbcaaGreatDoor
/- The walk of the law WideTexts. -/
import Derived.Test.YtejapkdhbpngbaaDoorW6
import Derived.Test.YtejapkdhbpngbaaDoorW49
import Derived.Test.YtejapkdhbpngbaaDoorW51
namespace Go.Proofs.YtejapkdhbpngbaaDoor
open Go.RowKit
attribute [local go_sem ↓] Go.wp_at_zero Go.wp_at_succ
theorem sameB_self (n : Bool) (l : List Nat) : sameB n l n l = true := by simp [sameB]

theorem same_self (n : Bool) (A1 A2 : Option Addr) (l : List Nat) (c1 c2 : Nat) (w : World) (hs1 : Sl w A1 l c1) (hs2 : Sl w A2 l c2) :
    Calls Tryd.prog 14 #[.agg #[.bool n, .slice A1 l.length c1], .agg #[.bool n, .slice A2 l.length c2]] w fun e w' => e = .returned (.bool true) ∧ Below w.heap.size w w' := by
  have h := same_any n n A1 A2 l l c1 c2 w hs1 hs2
  rw [sameB_self] at h
  exact h

set_option maxRecDepth 100000 in
set_option maxHeartbeats 2000000 in
theorem wideTexts_walk (na : Bool) (A1 : Option Addr) (la : List Nat) (ca : Nat) (s : ByteArray) (w : World) (hsa : Sl w A1 la ca) :
    Calls Tryd.prog 3 #[.agg #[.bool na, .slice A1 la.length ca], .string s] w fun e w' => e = .returned (.bool true) ∧ Below w.heap.size w w' := by
  obtain ⟨ss, rfl⟩ : ∃ ss : List UInt8, s = ⟨ss.toArray⟩ := ⟨s.data.toList, rfl⟩
  have hsz : (ByteArray.mk ss.toArray).size = ss.length := by simp [ByteArray.size]
  have Sa := Lib.hid hsa
  clear hsa
  have B : Hid (Below w.heap.size w w) := Below.refl _ _
  cases hga : greatB la
  · by_cases hsl : ss.length ≤ 3000
    · have dsl : decide ((3000 : Int) < (ss.length : Int)) = false := decide_eq_false (by omega)
      go_enter Tryd.func3, Tryd.ntmps3
      go_wp2_with fail
      refine (great_any na A1 la ca _).mono ?_
      rintro e w1 ⟨rfl, hb⟩
      have Ka : Hid (Cw w1 w.heap.size na A1 la.length ca) := Cw.keep (Cw.fresh (by simp) _ _ _ _ _) hb
      replace Sa : Hid (Sl w1 A1 la ca) := Sl.below (Sa.out.alloc _) hb
      replace B : Hid (Below w.heap.size w w1) := below_mono (below_mono B.out (blw1 _ _)) hb
      clear hb
      obtain ⟨qa0, qa1⟩ := Ka.out
      have hza : w.heap.size < w1.heap.size := lt_of_cell (a := ⟨w.heap.size, 0, none⟩) Ka.out.1
      go_wp2_with fail
      refine (wparse_any ss _ hsl).mono ?_
      rintro e w2 ⟨A2, c2, rfl, hs2, hb⟩
      clear qa0 qa1
      replace Ka : Hid (Cw w2 w.heap.size na A1 la.length ca) := Cw.keep Ka.out hb
      replace Sa : Hid (Sl w2 A1 la ca) := Sl.below Sa.out hb
      replace B : Hid (Below w.heap.size w w2) := below_mono B.out hb
      clear hb
      have Sx : Hid (Sl w2 A2 (parseS ss).1.2 c2) := hs2
      clear hs2
      obtain ⟨qa0, qa1⟩ := Ka.out
      replace hza : w.heap.size < w2.heap.size := lt_of_cell (a := ⟨w.heap.size, 0, none⟩) Ka.out.1
      go_wp2_with fail
      refine (rparse_any ss _ hsl).mono ?_
      rintro e w3 ⟨A3, c3, rfl, hs3, hb⟩
      clear qa0 qa1
      replace Ka : Hid (Cw w3 w.heap.size na A1 la.length ca) := Cw.keep (Cw.keep Ka.out (blw1 _ _)) hb
      have Kx : Hid (Cw w3 w2.heap.size (parseS ss).1.1 A2 (parseS ss).1.2.length c2) := Cw.keep (Cw.fresh (by simp) _ _ _ _ _) hb
      replace Sa : Hid (Sl w3 A1 la ca) := Sl.below (Sa.out.alloc _) hb
      replace Sx : Hid (Sl w3 A2 (parseS ss).1.2 c2) := Sl.below (Sx.out.alloc _) hb
      replace B : Hid (Below w.heap.size w w3) := below_mono (below_mono B.out (blw1 _ _)) hb
      clear hb
      have Sy : Hid (Sl w3 A3 (parseS ss).1.2 c3) := hs3
      clear hs3
      obtain ⟨qa0, qa1⟩ := Ka.out
      replace hza : w.heap.size < w3.heap.size := lt_of_cell (a := ⟨w.heap.size, 0, none⟩) Ka.out.1
      have hzx : w2.heap.size < w3.heap.size := lt_of_cell (a := ⟨w2.heap.size, 0, none⟩) Kx.out.1
      go_wp2_with fail
      refine (wtext_any _ _ _ _ _ (Sa.out.alloc _)).mono ?_
      rintro e w4 ⟨rfl, hb⟩
      clear qa0 qa1
      replace Ka : Hid (Cw w4 w.heap.size na A1 la.length ca) := Cw.keep (Cw.keep Ka.out (blw1 _ _)) hb
      replace Kx : Hid (Cw w4 w2.heap.size (parseS ss).1.1 A2 (parseS ss).1.2.length c2) := Cw.keep (Cw.keep Kx.out (blw1 _ _)) hb
      have Ky : Hid (Cw w4 w3.heap.size (parseS ss).1.1 A3 (parseS ss).1.2.length c3) := Cw.keep (Cw.fresh (by simp) _ _ _ _ _) hb
      replace Sa : Hid (Sl w4 A1 la ca) := Sl.below (Sa.out.alloc _) hb
      replace Sx : Hid (Sl w4 A2 (parseS ss).1.2 c2) := Sl.below (Sx.out.alloc _) hb
      replace Sy : Hid (Sl w4 A3 (parseS ss).1.2 c3) := Sl.below (Sy.out.alloc _) hb
      replace B : Hid (Below w.heap.size w w4) := below_mono (below_mono B.out (blw1 _ _)) hb
      clear hb
      obtain ⟨qa0, qa1⟩ := Ka.out
      replace hza : w.heap.size < w4.heap.size := lt_of_cell (a := ⟨w.heap.size, 0, none⟩) Ka.out.1
      replace hzx : w2.heap.size < w4.heap.size := lt_of_cell (a := ⟨w2.heap.size, 0, none⟩) Kx.out.1
      have hzy : w3.heap.size < w4.heap.size := lt_of_cell (a := ⟨w3.heap.size, 0, none⟩) Ky.out.1
      go_wp2_with fail
      refine (rtext_any _ _ _ _ _ Sa.out).mono ?_
      rintro e w5 ⟨rfl, hb⟩
      clear qa0 qa1
      replace Ka : Hid (Cw w5 w.heap.size na A1 la.length ca) := Cw.keep Ka.out hb
      replace Kx : Hid (Cw w5 w2.heap.size (parseS ss).1.1 A2 (parseS ss).1.2.length c2) := Cw.keep Kx.out hb
      replace Ky : Hid (Cw w5 w3.heap.size (parseS ss).1.1 A3 (parseS ss).1.2.length c3) := Cw.keep Ky.out hb
      replace Sa : Hid (Sl w5 A1 la ca) := Sl.below Sa.out hb
      replace Sx : Hid (Sl w5 A2 (parseS ss).1.2 c2) := Sl.below Sx.out hb
      replace Sy : Hid (Sl w5 A3 (parseS ss).1.2 c3) := Sl.below Sy.out hb
      replace B : Hid (Below w.heap.size w w5) := below_mono B.out hb
      clear hb
      obtain ⟨qa0, qa1⟩ := Ka.out
      replace hza : w.heap.size < w5.heap.size := lt_of_cell (a := ⟨w.heap.size, 0, none⟩) Ka.out.1
      replace hzx : w2.heap.size < w5.heap.size := lt_of_cell (a := ⟨w2.heap.size, 0, none⟩) Kx.out.1
      replace hzy : w3.heap.size < w5.heap.size := lt_of_cell (a := ⟨w3.heap.size, 0, none⟩) Ky.out.1
      clear qa0 qa1
      obtain ⟨qx0, qx1⟩ := Kx.out
      obtain ⟨qy0, qy1⟩ := Ky.out
      go_wp2_with fail
      refine (same_self _ _ _ _ _ _ _ Sx.out Sy.out).mono ?_
      rintro e w6 ⟨rfl, hb⟩
      clear qx0 qx1 qy0 qy1
      replace Ka : Hid (Cw w6 w.heap.size na A1 la.length ca) := Cw.keep Ka.out hb
      replace Kx : Hid (Cw w6 w2.heap.size (parseS ss).1.1 A2 (parseS ss).1.2.length c2) := Cw.keep Kx.out hb
      replace Ky : Hid (Cw w6 w3.heap.size (parseS ss).1.1 A3 (parseS ss).1.2.length c3) := Cw.keep Ky.out hb
      replace Sa : Hid (Sl w6 A1 la ca) := Sl.below Sa.out hb
      replace Sx : Hid (Sl w6 A2 (parseS ss).1.2 c2) := Sl.below Sx.out hb
      replace Sy : Hid (Sl w6 A3 (parseS ss).1.2 c3) := Sl.below Sy.out hb
      replace B : Hid (Below w.heap.size w w6) := below_mono B.out hb
      clear hb
      replace hza : w.heap.size < w6.heap.size := lt_of_cell (a := ⟨w.heap.size, 0, none⟩) Ka.out.1
      replace hzx : w2.heap.size < w6.heap.size := lt_of_cell (a := ⟨w2.heap.size, 0, none⟩) Kx.out.1
      replace hzy : w3.heap.size < w6.heap.size := lt_of_cell (a := ⟨w3.heap.size, 0, none⟩) Ky.out.1
      go_wp2
      go_ret
      exact ⟨rfl, B.out⟩
    · have dsl : decide ((3000 : Int) < (ss.length : Int)) = true := decide_eq_true (by omega)
      go_enter Tryd.func3, Tryd.ntmps3
      go_wp2_with fail
      refine (great_any na A1 la ca _).mono ?_
      rintro e w1 ⟨rfl, hb⟩
      go_wp2
      go_ret
      exact ⟨rfl, below_mono (blw1 _ _) hb⟩
  · go_enter Tryd.func3, Tryd.ntmps3
    go_wp2_with fail
    refine (great_any na A1 la ca _).mono ?_
    rintro e w1 ⟨rfl, hb⟩
    go_wp2
    go_ret
    exact ⟨rfl, below_mono (blw1 _ _) hb⟩

end Go.Proofs.YtejapkdhbpngbaaDoor

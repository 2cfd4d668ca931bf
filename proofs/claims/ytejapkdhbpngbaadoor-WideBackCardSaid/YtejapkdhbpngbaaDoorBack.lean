/- The walk of the law WideBack. -/
import Derived.Test.YtejapkdhbpngbaaDoorW8
import Derived.Test.YtejapkdhbpngbaaDoorW50
import Derived.Test.YtejapkdhbpngbaaDoorW52
import Derived.Test.YtejapkdhbpngbaaDoorMathL
import Derived.Test.YtejapkdhbpngbaaDoorMathT
namespace Go.Proofs.YtejapkdhbpngbaaDoor
open Go.RowKit
attribute [local go_sem ↓] Go.wp_at_zero Go.wp_at_succ
theorem int_from {n : Bool} {l : List Nat} {k : Int} (h : (n, l) = wOf k) (h1 : -9223372036854775808 ≤ k) (h2 : k ≤ 9223372036854775807) : intS n l = (k, 0) := by
  have hf : fitZ k := fit_of_lt (k := 2) (by omega) (by omega)
  have v := vz_mk h hf
  unfold intS
  rw [v.good, if_neg (by simp), v.zv_eq, if_pos ⟨h1, h2⟩]

theorem back_len {n : Bool} {l : List Nat} (hl : Lim l) (hg : greatB l = false) (hb : badL n l = false) : (textZ n (val l)).length ≤ 3000 := by
  have h1 := (good_canon hl hb).2.1
  have h2 : l.length ≤ 300 := by
    unfold greatB at hg
    simp only [Bool.or_eq_false_iff, Bool.and_eq_false_iff, decide_eq_false_iff_not] at hg
    omega
  have h3 : val l < 2 ^ (32 * l.length) := by
    have := val_lt hl
    rw [show (4294967296 : Nat) = 2 ^ 32 by rfl, ← Nat.pow_mul] at this
    exact this
  have h4 := text_len (n := n) h3
  have h5 : 32 * l.length / 33 ≤ 290 := by omega
  omega

theorem sgl (ss : List UInt8) : (ByteArray.mk ss.toArray).size = ss.length := by simp [ByteArray.size]

set_option maxRecDepth 100000 in
set_option maxHeartbeats 4000000 in
theorem wideBack_walk (na : Bool) (Aa : Option Addr) (la : List Nat) (ca : Nat) (s : ByteArray) (n : Int) (h1 : -9223372036854775808 ≤ n) (h2 : n ≤ 9223372036854775807) (w : World) (hsa : Sl w Aa la ca) :
    Calls Tryd.prog 6 #[.agg #[.bool na, .slice Aa la.length ca], .string s, .int .i64 n] w fun e w' => e = .returned (.bool true) ∧ Below w.heap.size w w' := by
  obtain ⟨ss, rfl⟩ : ∃ ss : List UInt8, s = ⟨ss.toArray⟩ := ⟨s.data.toList, rfl⟩
  have hsz := sgl ss
  have Sa := Lib.hid hsa
  have B : Hid (Below w.heap.size w w) := Below.refl _ _
  cases hga : greatB la with
  | true =>
    have Hga := Lib.hid hga
    clear hsa hga
    go_enter Tryd.func6, Tryd.ntmps6
    go_wp2_with fail
    refine (alive_any _).mono ?_
    rintro e w1 ⟨rfl, hb⟩
    have Ka : Hid (Cw w1 w.heap.size na Aa la.length ca) := Cw.keep (Cw.fresh (by simp) _ _ _ _ _) hb
    replace Sa : Hid (Sl w1 Aa la ca) := Sl.below (Sa.out.alloc _) hb
    replace B : Hid (Below w.heap.size w w1) := below_mono (below_mono B.out (blw1 _ _)) hb
    clear hb
    obtain ⟨qa0, qa1⟩ := Ka.out
    have hza : w.heap.size < w1.heap.size := lt_of_cell (a := ⟨w.heap.size, 0, none⟩) Ka.out.1
    go_wp2_with fail
    refine (great_any na Aa la ca _).mono ?_
    rw [Hga.out]
    rintro e w2 ⟨rfl, hb⟩
    clear qa0 qa1
    replace Ka : Hid (Cw w2 w.heap.size na Aa la.length ca) := Cw.keep Ka.out hb
    replace Sa : Hid (Sl w2 Aa la ca) := Sl.below Sa.out hb
    replace B : Hid (Below w.heap.size w w2) := below_mono B.out hb
    clear hb
    obtain ⟨qa0, qa1⟩ := Ka.out
    replace hza : w.heap.size < w2.heap.size := lt_of_cell (a := ⟨w.heap.size, 0, none⟩) Ka.out.1
    go_wp2
    go_ret
    exact ⟨rfl, B.out⟩
  | false =>
    by_cases hsl : ss.length ≤ 3000
    · have dsl : decide ((3000 : Int) < (ss.length : Int)) = false := decide_eq_false (by omega)
      cases hbad : badL na la with
      | true =>
        rcases parse_err ss hsl with ⟨nu, lu, hw⟩ | hw
        · skip
          obtain ⟨⟨nm, lm⟩, hm⟩ : ∃ p : Bool × List Nat, p = wOf n := ⟨_, rfl⟩
          have HF : Hid (∀ W, Calls Tryd.prog 27 #[.int .i64 n] W (WRes1 (nm, lm) W)) := fun W => by rw [hm]; exact from_any n W h1 h2
          have HI : Hid (intS nm lm = (n, 0)) := int_from hm h1 h2
          have HT : Hid (textS na la = ([], 8)) := by unfold Hid textS; rw [hbad, if_pos rfl]
          have HCa : Hid (chk na la = 8) := chk_bad hbad
          have HU : Hid (textS nu lu = (ss, 0)) := by unfold Hid textS; rw [(text_parse hw).2, if_neg (by simp), (text_parse hw).1]
          have HW := Lib.hid hw
          have Hga := Lib.hid hga
          have Hsl := Lib.hid hsl
          clear hsa hbad hw hga hm hsl
          go_enter Tryd.func6, Tryd.ntmps6
          go_wp2_with fail
          refine (alive_any _).mono ?_
          rintro e w1 ⟨rfl, hb⟩
          have Ka : Hid (Cw w1 w.heap.size na Aa la.length ca) := Cw.keep (Cw.fresh (by simp) _ _ _ _ _) hb
          replace Sa : Hid (Sl w1 Aa la ca) := Sl.below (Sa.out.alloc _) hb
          replace B : Hid (Below w.heap.size w w1) := below_mono (below_mono B.out (blw1 _ _)) hb
          clear hb
          obtain ⟨qa0, qa1⟩ := Ka.out
          have hza : w.heap.size < w1.heap.size := lt_of_cell (a := ⟨w.heap.size, 0, none⟩) Ka.out.1
          go_wp2_with fail
          refine (great_any na Aa la ca _).mono ?_
          rw [Hga.out]
          rintro e w2 ⟨rfl, hb⟩
          clear qa0 qa1
          replace Ka : Hid (Cw w2 w.heap.size na Aa la.length ca) := Cw.keep Ka.out hb
          replace Sa : Hid (Sl w2 Aa la ca) := Sl.below Sa.out hb
          replace B : Hid (Below w.heap.size w w2) := below_mono B.out hb
          clear hb
          obtain ⟨qa0, qa1⟩ := Ka.out
          replace hza : w.heap.size < w2.heap.size := lt_of_cell (a := ⟨w.heap.size, 0, none⟩) Ka.out.1
          clear qa0 qa1
          go_wp2_with fail
          refine (HF.out _).mono ?_
          rintro e w3 ⟨A3, c3, rfl, hs3, hb⟩
          replace Ka : Hid (Cw w3 w.heap.size na Aa la.length ca) := Cw.keep Ka.out hb
          replace Sa : Hid (Sl w3 Aa la ca) := Sl.below Sa.out hb
          replace B : Hid (Below w.heap.size w w3) := below_mono B.out hb
          clear hb
          have Sm : Hid (Sl w3 A3 lm c3) := hs3
          clear hs3
          (try dsimp only)
          replace hza : w.heap.size < w3.heap.size := lt_of_cell (a := ⟨w.heap.size, 0, none⟩) Ka.out.1
          go_wp2_with fail
          refine (int_any nm _ lm _ _ Sm.out).mono ?_
          rw [HI.out]
          rintro e w4 ⟨rfl, hb⟩
          replace Ka : Hid (Cw w4 w.heap.size na Aa la.length ca) := Cw.keep Ka.out hb
          replace Sa : Hid (Sl w4 Aa la ca) := Sl.below Sa.out hb
          replace Sm : Hid (Sl w4 A3 lm c3) := Sl.below Sm.out hb
          replace B : Hid (Below w.heap.size w w4) := below_mono B.out hb
          clear hb
          replace hza : w.heap.size < w4.heap.size := lt_of_cell (a := ⟨w.heap.size, 0, none⟩) Ka.out.1
          clear Sm
          obtain ⟨qa0, qa1⟩ := Ka.out
          go_wp2_with fail
          refine (wtext_any _ _ _ _ _ Sa.out).mono ?_
          rw [HT.out]
          rintro e w5 ⟨rfl, hb⟩
          clear qa0 qa1
          replace Ka : Hid (Cw w5 w.heap.size na Aa la.length ca) := Cw.keep Ka.out hb
          replace Sa : Hid (Sl w5 Aa la ca) := Sl.below Sa.out hb
          replace B : Hid (Below w.heap.size w w5) := below_mono B.out hb
          clear hb
          replace hza : w.heap.size < w5.heap.size := lt_of_cell (a := ⟨w.heap.size, 0, none⟩) Ka.out.1
          go_wp2_with fail
          refine (wparse_any ss _ Hsl.out).mono ?_
          rw [HW.out]
          rintro e w6 ⟨A6, c6, rfl, hs6, hb⟩
          replace Ka : Hid (Cw w6 w.heap.size na Aa la.length ca) := Cw.keep Ka.out hb
          replace Sa : Hid (Sl w6 Aa la ca) := Sl.below Sa.out hb
          replace B : Hid (Below w.heap.size w w6) := below_mono B.out hb
          clear hb
          have Su : Hid (Sl w6 A6 lu c6) := hs6
          clear hs6
          (try dsimp only)
          replace hza : w.heap.size < w6.heap.size := lt_of_cell (a := ⟨w.heap.size, 0, none⟩) Ka.out.1
          go_wp2_with fail
          refine (wtext_any _ _ _ _ _ (Su.out.alloc _)).mono ?_
          rw [HU.out]
          rintro e w7 ⟨rfl, hb⟩
          replace Ka : Hid (Cw w7 w.heap.size na Aa la.length ca) := Cw.keep (Cw.keep Ka.out (blw1 _ _)) hb
          have Ku : Hid (Cw w7 w6.heap.size nu A6 lu.length c6) := Cw.keep (Cw.fresh (by simp) _ _ _ _ _) hb
          replace Sa : Hid (Sl w7 Aa la ca) := Sl.below (Sa.out.alloc _) hb
          replace Su : Hid (Sl w7 A6 lu c6) := Sl.below (Su.out.alloc _) hb
          replace B : Hid (Below w.heap.size w w7) := below_mono (below_mono B.out (blw1 _ _)) hb
          clear hb
          replace hza : w.heap.size < w7.heap.size := lt_of_cell (a := ⟨w.heap.size, 0, none⟩) Ka.out.1
          have hzu : w6.heap.size < w7.heap.size := lt_of_cell (a := ⟨w6.heap.size, 0, none⟩) Ku.out.1
          go_wp2
          go_ret
          exact ⟨rfl, B.out⟩
        · skip
          obtain ⟨⟨nm, lm⟩, hm⟩ : ∃ p : Bool × List Nat, p = wOf n := ⟨_, rfl⟩
          have HF : Hid (∀ W, Calls Tryd.prog 27 #[.int .i64 n] W (WRes1 (nm, lm) W)) := fun W => by rw [hm]; exact from_any n W h1 h2
          have HI : Hid (intS nm lm = (n, 0)) := int_from hm h1 h2
          have HT : Hid (textS na la = ([], 8)) := by unfold Hid textS; rw [hbad, if_pos rfl]
          have HCa : Hid (chk na la = 8) := chk_bad hbad
          have HW := Lib.hid hw
          have Hga := Lib.hid hga
          have Hsl := Lib.hid hsl
          clear hsa hbad hw hga hm hsl
          go_enter Tryd.func6, Tryd.ntmps6
          go_wp2_with fail
          refine (alive_any _).mono ?_
          rintro e w1 ⟨rfl, hb⟩
          have Ka : Hid (Cw w1 w.heap.size na Aa la.length ca) := Cw.keep (Cw.fresh (by simp) _ _ _ _ _) hb
          replace Sa : Hid (Sl w1 Aa la ca) := Sl.below (Sa.out.alloc _) hb
          replace B : Hid (Below w.heap.size w w1) := below_mono (below_mono B.out (blw1 _ _)) hb
          clear hb
          obtain ⟨qa0, qa1⟩ := Ka.out
          have hza : w.heap.size < w1.heap.size := lt_of_cell (a := ⟨w.heap.size, 0, none⟩) Ka.out.1
          go_wp2_with fail
          refine (great_any na Aa la ca _).mono ?_
          rw [Hga.out]
          rintro e w2 ⟨rfl, hb⟩
          clear qa0 qa1
          replace Ka : Hid (Cw w2 w.heap.size na Aa la.length ca) := Cw.keep Ka.out hb
          replace Sa : Hid (Sl w2 Aa la ca) := Sl.below Sa.out hb
          replace B : Hid (Below w.heap.size w w2) := below_mono B.out hb
          clear hb
          obtain ⟨qa0, qa1⟩ := Ka.out
          replace hza : w.heap.size < w2.heap.size := lt_of_cell (a := ⟨w.heap.size, 0, none⟩) Ka.out.1
          clear qa0 qa1
          go_wp2_with fail
          refine (HF.out _).mono ?_
          rintro e w3 ⟨A3, c3, rfl, hs3, hb⟩
          replace Ka : Hid (Cw w3 w.heap.size na Aa la.length ca) := Cw.keep Ka.out hb
          replace Sa : Hid (Sl w3 Aa la ca) := Sl.below Sa.out hb
          replace B : Hid (Below w.heap.size w w3) := below_mono B.out hb
          clear hb
          have Sm : Hid (Sl w3 A3 lm c3) := hs3
          clear hs3
          (try dsimp only)
          replace hza : w.heap.size < w3.heap.size := lt_of_cell (a := ⟨w.heap.size, 0, none⟩) Ka.out.1
          go_wp2_with fail
          refine (int_any nm _ lm _ _ Sm.out).mono ?_
          rw [HI.out]
          rintro e w4 ⟨rfl, hb⟩
          replace Ka : Hid (Cw w4 w.heap.size na Aa la.length ca) := Cw.keep Ka.out hb
          replace Sa : Hid (Sl w4 Aa la ca) := Sl.below Sa.out hb
          replace Sm : Hid (Sl w4 A3 lm c3) := Sl.below Sm.out hb
          replace B : Hid (Below w.heap.size w w4) := below_mono B.out hb
          clear hb
          replace hza : w.heap.size < w4.heap.size := lt_of_cell (a := ⟨w.heap.size, 0, none⟩) Ka.out.1
          clear Sm
          obtain ⟨qa0, qa1⟩ := Ka.out
          go_wp2_with fail
          refine (wtext_any _ _ _ _ _ Sa.out).mono ?_
          rw [HT.out]
          rintro e w5 ⟨rfl, hb⟩
          clear qa0 qa1
          replace Ka : Hid (Cw w5 w.heap.size na Aa la.length ca) := Cw.keep Ka.out hb
          replace Sa : Hid (Sl w5 Aa la ca) := Sl.below Sa.out hb
          replace B : Hid (Below w.heap.size w w5) := below_mono B.out hb
          clear hb
          replace hza : w.heap.size < w5.heap.size := lt_of_cell (a := ⟨w.heap.size, 0, none⟩) Ka.out.1
          go_wp2_with fail
          refine (wparse_any ss _ Hsl.out).mono ?_
          rw [HW.out]
          rintro e w6 ⟨Au, cu, rfl, _, hb⟩
          replace Ka : Hid (Cw w6 w.heap.size na Aa la.length ca) := Cw.keep Ka.out hb
          replace Sa : Hid (Sl w6 Aa la ca) := Sl.below Sa.out hb
          replace B : Hid (Below w.heap.size w w6) := below_mono B.out hb
          clear hb
          replace hza : w.heap.size < w6.heap.size := lt_of_cell (a := ⟨w.heap.size, 0, none⟩) Ka.out.1
          obtain ⟨qa0, qa1⟩ := Ka.out
          go_wp2_with fail
          refine (wcheck_any _ _ _ _ _ (Sa.out.alloc _)).mono ?_
          rw [HCa.out]
          rintro e w7 ⟨rfl, hb⟩
          clear qa0 qa1
          replace Ka : Hid (Cw w7 w.heap.size na Aa la.length ca) := Cw.keep (Cw.keep Ka.out (blw1 _ _)) hb
          replace Sa : Hid (Sl w7 Aa la ca) := Sl.below (Sa.out.alloc _) hb
          replace B : Hid (Below w.heap.size w w7) := below_mono (below_mono B.out (blw1 _ _)) hb
          clear hb
          replace hza : w.heap.size < w7.heap.size := lt_of_cell (a := ⟨w.heap.size, 0, none⟩) Ka.out.1
          go_wp2
          go_ret
          exact ⟨rfl, B.out⟩
      | false =>
        rcases parse_err ss hsl with ⟨nu, lu, hw⟩ | hw
        · skip
          obtain ⟨⟨nm, lm⟩, hm⟩ : ∃ p : Bool × List Nat, p = wOf n := ⟨_, rfl⟩
          have HF : Hid (∀ W, Calls Tryd.prog 27 #[.int .i64 n] W (WRes1 (nm, lm) W)) := fun W => by rw [hm]; exact from_any n W h1 h2
          have HI : Hid (intS nm lm = (n, 0)) := int_from hm h1 h2
          have hv := vz_of hsa.lim hbad
          obtain ⟨txt, htx⟩ : ∃ txt, txt = textZ na (val la) := ⟨_, rfl⟩
          have HT : Hid (textS na la = (txt, 0)) := by unfold Hid textS; rw [hbad, if_neg (by simp), htx]
          have HP : Hid (parseS txt = ((na, la), 0)) := by unfold Hid; rw [htx]; exact parse_text hv
          have Htl : Hid (txt.length ≤ 3000) := by unfold Hid; rw [htx]; exact back_len hsa.lim hga hbad
          have HSa : Hid (sameB na la na la = true) := sameB_self _ _
          have HCa : Hid (chk na la = 0) := hv.chk
          clear hv htx
          have HU : Hid (textS nu lu = (ss, 0)) := by unfold Hid textS; rw [(text_parse hw).2, if_neg (by simp), (text_parse hw).1]
          have HW := Lib.hid hw
          have Hga := Lib.hid hga
          have Hsl := Lib.hid hsl
          clear hsa hbad hw hga hm hsl
          go_enter Tryd.func6, Tryd.ntmps6
          go_wp2_with fail
          refine (alive_any _).mono ?_
          rintro e w1 ⟨rfl, hb⟩
          have Ka : Hid (Cw w1 w.heap.size na Aa la.length ca) := Cw.keep (Cw.fresh (by simp) _ _ _ _ _) hb
          replace Sa : Hid (Sl w1 Aa la ca) := Sl.below (Sa.out.alloc _) hb
          replace B : Hid (Below w.heap.size w w1) := below_mono (below_mono B.out (blw1 _ _)) hb
          clear hb
          obtain ⟨qa0, qa1⟩ := Ka.out
          have hza : w.heap.size < w1.heap.size := lt_of_cell (a := ⟨w.heap.size, 0, none⟩) Ka.out.1
          go_wp2_with fail
          refine (great_any na Aa la ca _).mono ?_
          rw [Hga.out]
          rintro e w2 ⟨rfl, hb⟩
          clear qa0 qa1
          replace Ka : Hid (Cw w2 w.heap.size na Aa la.length ca) := Cw.keep Ka.out hb
          replace Sa : Hid (Sl w2 Aa la ca) := Sl.below Sa.out hb
          replace B : Hid (Below w.heap.size w w2) := below_mono B.out hb
          clear hb
          obtain ⟨qa0, qa1⟩ := Ka.out
          replace hza : w.heap.size < w2.heap.size := lt_of_cell (a := ⟨w.heap.size, 0, none⟩) Ka.out.1
          clear qa0 qa1
          go_wp2_with fail
          refine (HF.out _).mono ?_
          rintro e w3 ⟨A3, c3, rfl, hs3, hb⟩
          replace Ka : Hid (Cw w3 w.heap.size na Aa la.length ca) := Cw.keep Ka.out hb
          replace Sa : Hid (Sl w3 Aa la ca) := Sl.below Sa.out hb
          replace B : Hid (Below w.heap.size w w3) := below_mono B.out hb
          clear hb
          have Sm : Hid (Sl w3 A3 lm c3) := hs3
          clear hs3
          (try dsimp only)
          replace hza : w.heap.size < w3.heap.size := lt_of_cell (a := ⟨w.heap.size, 0, none⟩) Ka.out.1
          go_wp2_with fail
          refine (int_any nm _ lm _ _ Sm.out).mono ?_
          rw [HI.out]
          rintro e w4 ⟨rfl, hb⟩
          replace Ka : Hid (Cw w4 w.heap.size na Aa la.length ca) := Cw.keep Ka.out hb
          replace Sa : Hid (Sl w4 Aa la ca) := Sl.below Sa.out hb
          replace Sm : Hid (Sl w4 A3 lm c3) := Sl.below Sm.out hb
          replace B : Hid (Below w.heap.size w w4) := below_mono B.out hb
          clear hb
          replace hza : w.heap.size < w4.heap.size := lt_of_cell (a := ⟨w.heap.size, 0, none⟩) Ka.out.1
          clear Sm
          obtain ⟨qa0, qa1⟩ := Ka.out
          go_wp2_with fail
          refine (wtext_any _ _ _ _ _ Sa.out).mono ?_
          rw [HT.out]
          rintro e w5 ⟨rfl, hb⟩
          clear qa0 qa1
          replace Ka : Hid (Cw w5 w.heap.size na Aa la.length ca) := Cw.keep Ka.out hb
          replace Sa : Hid (Sl w5 Aa la ca) := Sl.below Sa.out hb
          replace B : Hid (Below w.heap.size w w5) := below_mono B.out hb
          clear hb
          replace hza : w.heap.size < w5.heap.size := lt_of_cell (a := ⟨w.heap.size, 0, none⟩) Ka.out.1
          go_wp2_with fail
          refine (wparse_any txt _ Htl.out).mono ?_
          rw [HP.out]
          rintro e w6 ⟨A6, c6, rfl, hs6, hb⟩
          replace Ka : Hid (Cw w6 w.heap.size na Aa la.length ca) := Cw.keep Ka.out hb
          replace Sa : Hid (Sl w6 Aa la ca) := Sl.below Sa.out hb
          replace B : Hid (Below w.heap.size w w6) := below_mono B.out hb
          clear hb
          have Sb : Hid (Sl w6 A6 la c6) := hs6
          clear hs6
          (try dsimp only)
          replace hza : w.heap.size < w6.heap.size := lt_of_cell (a := ⟨w.heap.size, 0, none⟩) Ka.out.1
          obtain ⟨qa0, qa1⟩ := Ka.out
          go_wp2_with fail
          refine (same_any _ _ _ _ _ _ _ _ _ (Sa.out.alloc _) (Sb.out.alloc _)).mono ?_
          rw [HSa.out]
          rintro e w7 ⟨rfl, hb⟩
          clear qa0 qa1
          replace Ka : Hid (Cw w7 w.heap.size na Aa la.length ca) := Cw.keep (Cw.keep Ka.out (blw1 _ _)) hb
          have Kb : Hid (Cw w7 w6.heap.size na A6 la.length c6) := Cw.keep (Cw.fresh (by simp) _ _ _ _ _) hb
          replace Sa : Hid (Sl w7 Aa la ca) := Sl.below (Sa.out.alloc _) hb
          replace Sb : Hid (Sl w7 A6 la c6) := Sl.below (Sb.out.alloc _) hb
          replace B : Hid (Below w.heap.size w w7) := below_mono (below_mono B.out (blw1 _ _)) hb
          clear hb
          replace hza : w.heap.size < w7.heap.size := lt_of_cell (a := ⟨w.heap.size, 0, none⟩) Ka.out.1
          have hzb : w6.heap.size < w7.heap.size := lt_of_cell (a := ⟨w6.heap.size, 0, none⟩) Kb.out.1
          go_wp2_with fail
          refine (wparse_any ss _ Hsl.out).mono ?_
          rw [HW.out]
          rintro e w8 ⟨A8, c8, rfl, hs8, hb⟩
          replace Ka : Hid (Cw w8 w.heap.size na Aa la.length ca) := Cw.keep Ka.out hb
          replace Kb : Hid (Cw w8 w6.heap.size na A6 la.length c6) := Cw.keep Kb.out hb
          replace Sa : Hid (Sl w8 Aa la ca) := Sl.below Sa.out hb
          replace Sb : Hid (Sl w8 A6 la c6) := Sl.below Sb.out hb
          replace B : Hid (Below w.heap.size w w8) := below_mono B.out hb
          clear hb
          have Su : Hid (Sl w8 A8 lu c8) := hs8
          clear hs8
          (try dsimp only)
          replace hza : w.heap.size < w8.heap.size := lt_of_cell (a := ⟨w.heap.size, 0, none⟩) Ka.out.1
          replace hzb : w6.heap.size < w8.heap.size := lt_of_cell (a := ⟨w6.heap.size, 0, none⟩) Kb.out.1
          go_wp2_with fail
          refine (wtext_any _ _ _ _ _ (Su.out.alloc _)).mono ?_
          rw [HU.out]
          rintro e w9 ⟨rfl, hb⟩
          replace Ka : Hid (Cw w9 w.heap.size na Aa la.length ca) := Cw.keep (Cw.keep Ka.out (blw1 _ _)) hb
          replace Kb : Hid (Cw w9 w6.heap.size na A6 la.length c6) := Cw.keep (Cw.keep Kb.out (blw1 _ _)) hb
          have Ku : Hid (Cw w9 w8.heap.size nu A8 lu.length c8) := Cw.keep (Cw.fresh (by simp) _ _ _ _ _) hb
          replace Sa : Hid (Sl w9 Aa la ca) := Sl.below (Sa.out.alloc _) hb
          replace Sb : Hid (Sl w9 A6 la c6) := Sl.below (Sb.out.alloc _) hb
          replace Su : Hid (Sl w9 A8 lu c8) := Sl.below (Su.out.alloc _) hb
          replace B : Hid (Below w.heap.size w w9) := below_mono (below_mono B.out (blw1 _ _)) hb
          clear hb
          replace hza : w.heap.size < w9.heap.size := lt_of_cell (a := ⟨w.heap.size, 0, none⟩) Ka.out.1
          replace hzb : w6.heap.size < w9.heap.size := lt_of_cell (a := ⟨w6.heap.size, 0, none⟩) Kb.out.1
          have hzu : w8.heap.size < w9.heap.size := lt_of_cell (a := ⟨w8.heap.size, 0, none⟩) Ku.out.1
          go_wp2
          go_ret
          exact ⟨rfl, B.out⟩
        · skip
          obtain ⟨⟨nm, lm⟩, hm⟩ : ∃ p : Bool × List Nat, p = wOf n := ⟨_, rfl⟩
          have HF : Hid (∀ W, Calls Tryd.prog 27 #[.int .i64 n] W (WRes1 (nm, lm) W)) := fun W => by rw [hm]; exact from_any n W h1 h2
          have HI : Hid (intS nm lm = (n, 0)) := int_from hm h1 h2
          have hv := vz_of hsa.lim hbad
          obtain ⟨txt, htx⟩ : ∃ txt, txt = textZ na (val la) := ⟨_, rfl⟩
          have HT : Hid (textS na la = (txt, 0)) := by unfold Hid textS; rw [hbad, if_neg (by simp), htx]
          have HP : Hid (parseS txt = ((na, la), 0)) := by unfold Hid; rw [htx]; exact parse_text hv
          have Htl : Hid (txt.length ≤ 3000) := by unfold Hid; rw [htx]; exact back_len hsa.lim hga hbad
          have HSa : Hid (sameB na la na la = true) := sameB_self _ _
          have HCa : Hid (chk na la = 0) := hv.chk
          clear hv htx
          have HW := Lib.hid hw
          have Hga := Lib.hid hga
          have Hsl := Lib.hid hsl
          clear hsa hbad hw hga hm hsl
          go_enter Tryd.func6, Tryd.ntmps6
          go_wp2_with fail
          refine (alive_any _).mono ?_
          rintro e w1 ⟨rfl, hb⟩
          have Ka : Hid (Cw w1 w.heap.size na Aa la.length ca) := Cw.keep (Cw.fresh (by simp) _ _ _ _ _) hb
          replace Sa : Hid (Sl w1 Aa la ca) := Sl.below (Sa.out.alloc _) hb
          replace B : Hid (Below w.heap.size w w1) := below_mono (below_mono B.out (blw1 _ _)) hb
          clear hb
          obtain ⟨qa0, qa1⟩ := Ka.out
          have hza : w.heap.size < w1.heap.size := lt_of_cell (a := ⟨w.heap.size, 0, none⟩) Ka.out.1
          go_wp2_with fail
          refine (great_any na Aa la ca _).mono ?_
          rw [Hga.out]
          rintro e w2 ⟨rfl, hb⟩
          clear qa0 qa1
          replace Ka : Hid (Cw w2 w.heap.size na Aa la.length ca) := Cw.keep Ka.out hb
          replace Sa : Hid (Sl w2 Aa la ca) := Sl.below Sa.out hb
          replace B : Hid (Below w.heap.size w w2) := below_mono B.out hb
          clear hb
          obtain ⟨qa0, qa1⟩ := Ka.out
          replace hza : w.heap.size < w2.heap.size := lt_of_cell (a := ⟨w.heap.size, 0, none⟩) Ka.out.1
          clear qa0 qa1
          go_wp2_with fail
          refine (HF.out _).mono ?_
          rintro e w3 ⟨A3, c3, rfl, hs3, hb⟩
          replace Ka : Hid (Cw w3 w.heap.size na Aa la.length ca) := Cw.keep Ka.out hb
          replace Sa : Hid (Sl w3 Aa la ca) := Sl.below Sa.out hb
          replace B : Hid (Below w.heap.size w w3) := below_mono B.out hb
          clear hb
          have Sm : Hid (Sl w3 A3 lm c3) := hs3
          clear hs3
          (try dsimp only)
          replace hza : w.heap.size < w3.heap.size := lt_of_cell (a := ⟨w.heap.size, 0, none⟩) Ka.out.1
          go_wp2_with fail
          refine (int_any nm _ lm _ _ Sm.out).mono ?_
          rw [HI.out]
          rintro e w4 ⟨rfl, hb⟩
          replace Ka : Hid (Cw w4 w.heap.size na Aa la.length ca) := Cw.keep Ka.out hb
          replace Sa : Hid (Sl w4 Aa la ca) := Sl.below Sa.out hb
          replace Sm : Hid (Sl w4 A3 lm c3) := Sl.below Sm.out hb
          replace B : Hid (Below w.heap.size w w4) := below_mono B.out hb
          clear hb
          replace hza : w.heap.size < w4.heap.size := lt_of_cell (a := ⟨w.heap.size, 0, none⟩) Ka.out.1
          clear Sm
          obtain ⟨qa0, qa1⟩ := Ka.out
          go_wp2_with fail
          refine (wtext_any _ _ _ _ _ Sa.out).mono ?_
          rw [HT.out]
          rintro e w5 ⟨rfl, hb⟩
          clear qa0 qa1
          replace Ka : Hid (Cw w5 w.heap.size na Aa la.length ca) := Cw.keep Ka.out hb
          replace Sa : Hid (Sl w5 Aa la ca) := Sl.below Sa.out hb
          replace B : Hid (Below w.heap.size w w5) := below_mono B.out hb
          clear hb
          replace hza : w.heap.size < w5.heap.size := lt_of_cell (a := ⟨w.heap.size, 0, none⟩) Ka.out.1
          go_wp2_with fail
          refine (wparse_any txt _ Htl.out).mono ?_
          rw [HP.out]
          rintro e w6 ⟨A6, c6, rfl, hs6, hb⟩
          replace Ka : Hid (Cw w6 w.heap.size na Aa la.length ca) := Cw.keep Ka.out hb
          replace Sa : Hid (Sl w6 Aa la ca) := Sl.below Sa.out hb
          replace B : Hid (Below w.heap.size w w6) := below_mono B.out hb
          clear hb
          have Sb : Hid (Sl w6 A6 la c6) := hs6
          clear hs6
          (try dsimp only)
          replace hza : w.heap.size < w6.heap.size := lt_of_cell (a := ⟨w.heap.size, 0, none⟩) Ka.out.1
          obtain ⟨qa0, qa1⟩ := Ka.out
          go_wp2_with fail
          refine (same_any _ _ _ _ _ _ _ _ _ (Sa.out.alloc _) (Sb.out.alloc _)).mono ?_
          rw [HSa.out]
          rintro e w7 ⟨rfl, hb⟩
          clear qa0 qa1
          replace Ka : Hid (Cw w7 w.heap.size na Aa la.length ca) := Cw.keep (Cw.keep Ka.out (blw1 _ _)) hb
          have Kb : Hid (Cw w7 w6.heap.size na A6 la.length c6) := Cw.keep (Cw.fresh (by simp) _ _ _ _ _) hb
          replace Sa : Hid (Sl w7 Aa la ca) := Sl.below (Sa.out.alloc _) hb
          replace Sb : Hid (Sl w7 A6 la c6) := Sl.below (Sb.out.alloc _) hb
          replace B : Hid (Below w.heap.size w w7) := below_mono (below_mono B.out (blw1 _ _)) hb
          clear hb
          replace hza : w.heap.size < w7.heap.size := lt_of_cell (a := ⟨w.heap.size, 0, none⟩) Ka.out.1
          have hzb : w6.heap.size < w7.heap.size := lt_of_cell (a := ⟨w6.heap.size, 0, none⟩) Kb.out.1
          go_wp2_with fail
          refine (wparse_any ss _ Hsl.out).mono ?_
          rw [HW.out]
          rintro e w8 ⟨Au, cu, rfl, _, hb⟩
          replace Ka : Hid (Cw w8 w.heap.size na Aa la.length ca) := Cw.keep Ka.out hb
          replace Kb : Hid (Cw w8 w6.heap.size na A6 la.length c6) := Cw.keep Kb.out hb
          replace Sa : Hid (Sl w8 Aa la ca) := Sl.below Sa.out hb
          replace Sb : Hid (Sl w8 A6 la c6) := Sl.below Sb.out hb
          replace B : Hid (Below w.heap.size w w8) := below_mono B.out hb
          clear hb
          replace hza : w.heap.size < w8.heap.size := lt_of_cell (a := ⟨w.heap.size, 0, none⟩) Ka.out.1
          replace hzb : w6.heap.size < w8.heap.size := lt_of_cell (a := ⟨w6.heap.size, 0, none⟩) Kb.out.1
          obtain ⟨qa0, qa1⟩ := Ka.out
          go_wp2_with fail
          refine (wcheck_any _ _ _ _ _ (Sa.out.alloc _)).mono ?_
          rw [HCa.out]
          rintro e w9 ⟨rfl, hb⟩
          clear qa0 qa1
          replace Ka : Hid (Cw w9 w.heap.size na Aa la.length ca) := Cw.keep (Cw.keep Ka.out (blw1 _ _)) hb
          replace Kb : Hid (Cw w9 w6.heap.size na A6 la.length c6) := Cw.keep (Cw.keep Kb.out (blw1 _ _)) hb
          replace Sa : Hid (Sl w9 Aa la ca) := Sl.below (Sa.out.alloc _) hb
          replace Sb : Hid (Sl w9 A6 la c6) := Sl.below (Sb.out.alloc _) hb
          replace B : Hid (Below w.heap.size w w9) := below_mono (below_mono B.out (blw1 _ _)) hb
          clear hb
          replace hza : w.heap.size < w9.heap.size := lt_of_cell (a := ⟨w.heap.size, 0, none⟩) Ka.out.1
          replace hzb : w6.heap.size < w9.heap.size := lt_of_cell (a := ⟨w6.heap.size, 0, none⟩) Kb.out.1
          go_wp2
          go_ret
          exact ⟨rfl, B.out⟩
    · have dsl : decide ((3000 : Int) < (ss.length : Int)) = true := decide_eq_true (by omega)
      have Hga := Lib.hid hga
      clear hsa hga hsl
      go_enter Tryd.func6, Tryd.ntmps6
      go_wp2_with fail
      refine (alive_any _).mono ?_
      rintro e w1 ⟨rfl, hb⟩
      have Ka : Hid (Cw w1 w.heap.size na Aa la.length ca) := Cw.keep (Cw.fresh (by simp) _ _ _ _ _) hb
      replace Sa : Hid (Sl w1 Aa la ca) := Sl.below (Sa.out.alloc _) hb
      replace B : Hid (Below w.heap.size w w1) := below_mono (below_mono B.out (blw1 _ _)) hb
      clear hb
      obtain ⟨qa0, qa1⟩ := Ka.out
      have hza : w.heap.size < w1.heap.size := lt_of_cell (a := ⟨w.heap.size, 0, none⟩) Ka.out.1
      go_wp2_with fail
      refine (great_any na Aa la ca _).mono ?_
      rw [Hga.out]
      rintro e w2 ⟨rfl, hb⟩
      clear qa0 qa1
      replace Ka : Hid (Cw w2 w.heap.size na Aa la.length ca) := Cw.keep Ka.out hb
      replace Sa : Hid (Sl w2 Aa la ca) := Sl.below Sa.out hb
      replace B : Hid (Below w.heap.size w w2) := below_mono B.out hb
      clear hb
      obtain ⟨qa0, qa1⟩ := Ka.out
      replace hza : w.heap.size < w2.heap.size := lt_of_cell (a := ⟨w.heap.size, 0, none⟩) Ka.out.1
      go_wp2
      go_ret
      exact ⟨rfl, B.out⟩

end Go.Proofs.YtejapkdhbpngbaaDoor

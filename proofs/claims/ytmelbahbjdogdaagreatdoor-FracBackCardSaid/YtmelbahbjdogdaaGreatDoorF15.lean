/- Walks: the text of a fraction (frac.Text, the reference's Text). -/
import Derived.Test.YtmelbahbjdogdaaGreatDoorF3
import Derived.Test.YtmelbahbjdogdaaGreatDoorW48
import Derived.Test.YtmelbahbjdogdaaGreatDoorMathZ
import Derived.Test.YtmelbahbjdogdaaGreatDoorW10
namespace Go.Proofs.YtmelbahbjdogdaaGreatDoor
open Go.RowKit
attribute [local go_sem ↓] Go.wp_at_zero Go.wp_at_succ
/-- The text of a fraction, or ErrBad. -/
def ftextS (n1 : Bool) (l1 : List Nat) (n2 : Bool) (l2 : List Nat) : List UInt8 × Int :=
  if badF n1 l1 n2 l2 then ([], 8) else if zv n2 l2 = 1 then (textZ n1 (val l1), 0) else (textZ n1 (val l1) ++ 47 :: textZ n2 (val l2), 0)

set_option maxRecDepth 100000 in
set_option maxHeartbeats 2000000 in
theorem ftext_any (n1 n2 : Bool) (A1 A2 : Option Addr) (l1 l2 : List Nat) (c1 c2 : Nat) (w : World) (hs1 : Sl w A1 l1 c1) (hs2 : Sl w A2 l2 c2) :
    Calls Tryz.prog 12 #[.agg #[.bool n1, .slice A1 l1.length c1, .bool n2, .slice A2 l2.length c2]] w (TRes (ftextS n1 l1 n2 l2) w) := by
  have S1 := Lib.hid hs1
  have S2 := Lib.hid hs2
  have B : Hid (Below w.heap.size w w) := Below.refl _ _
  cases hb : badF n1 l1 n2 l2 with
  | true =>
    have hr : ftextS n1 l1 n2 l2 = ([], 8) := by unfold ftextS; rw [hb]; rfl
    have e1 : Hid (chkF n1 l1 n2 l2 = 8) := by unfold chkF; rw [hb]; rfl
    rw [hr]
    clear hs1 hs2 hr hb
    go_enter Tryz.func12, Tryz.ntmps12
    go_wp2_with fail
    refine (fcheck_any n1 n2 A1 A2 l1 l2 c1 c2 _ (S1.out.alloc _) (S2.out.alloc _)).mono ?_
    rw [e1.out]
    rintro e w1 ⟨rfl, hb⟩
    replace S1 := kS1 S1 hb
    replace S2 := kS1 S2 hb
    have Ka : Hid (Cf w1 w.heap.size n1 A1 l1.length c1 n2 A2 l2.length c2) := Cf.keep (Cf.fresh (by simp) _ _ _ _ _ _ _ _ _) hb
    replace B := kB1 B hb
    clear hb
    obtain ⟨qa0, qa1, qa2, qa3⟩ := Ka.out
    have hza := lF Ka
    go_wp2
    go_ret2
    exact ⟨rfl, B.out⟩
  | false =>
    have e1 : Hid (chkF n1 l1 n2 l2 = 0) := by unfold chkF; rw [hb]; rfl
    have va := vf_of hs1.lim hs2.lim hb
    have e2 : Hid (textS n1 l1 = (textZ n1 (val l1), 0)) := by rw [Hid, textS, va.num.good, if_neg (by simp)]
    have e3 : Hid (textS n2 l2 = (textZ n2 (val l2), 0)) := by rw [Hid, textS, va.den.good, if_neg (by simp)]
    obtain ⟨no, lo, ho⟩ : ∃ no lo, wOf 1 = (no, lo) := ⟨_, _, rfl⟩
    have vo := vz_mk ho.symm fit_one
    have hO : Hid (∀ W, Calls Tryz.prog 51 #[] W (WRes1 (no, lo) W)) := fun W => by rw [← ho]; exact one_any W
    have e4 : ((cmpS n2 l2 no lo).1 == 0) = decide (zv n2 l2 = 1) := by rw [cmpS_z va.den vo, Bool.eq_iff_iff, beq_iff_eq, decide_eq_true_iff]; simp only [cmpZ]; omega
    have hr : ftextS n1 l1 n2 l2 = if zv n2 l2 = 1 then (textZ n1 (val l1), 0) else (textZ n1 (val l1) ++ 47 :: textZ n2 (val l2), 0) := by unfold ftextS; rw [hb, if_neg (by simp)]
    rw [hr]
    clear hr
    have L1 : (textZ n1 (val l1)).length ≤ 50000 := by
      have h := val_lt va.num.canon.1
      have h2 : val l1 < 2 ^ (32 * l1.length) := by rw [Nat.pow_mul, show (2 : Nat) ^ 32 = 4294967296 from rfl]; exact h
      have h3 := text_len (n := n1) h2
      have := va.num.len
      omega
    have L2 : (textZ n2 (val l2)).length ≤ 50000 := by
      have h := val_lt va.den.canon.1
      have h2 : val l2 < 2 ^ (32 * l2.length) := by rw [Nat.pow_mul, show (2 : Nat) ^ 32 = 4294967296 from rfl]; exact h
      have h3 := text_len (n := n2) h2
      have := va.den.len
      omega
    generalize textZ n1 (val l1) = s1 at *
    generalize textZ n2 (val l2) = s2 at *
    by_cases hone : zv n2 l2 = 1
    · rw [if_pos hone]
      have e5 := Lib.hid (e4.trans (decide_eq_true hone))
      clear hs1 hs2 hb va ho vo e4 hone e3 L1 L2
      go_enter Tryz.func12, Tryz.ntmps12
      go_wp2_with fail
      refine (fcheck_any n1 n2 A1 A2 l1 l2 c1 c2 _ (S1.out.alloc _) (S2.out.alloc _)).mono ?_
      rw [e1.out]
      rintro e w1 ⟨rfl, hb⟩
      replace S1 := kS1 S1 hb
      replace S2 := kS1 S2 hb
      have Ka : Hid (Cf w1 w.heap.size n1 A1 l1.length c1 n2 A2 l2.length c2) := Cf.keep (Cf.fresh (by simp) _ _ _ _ _ _ _ _ _) hb
      replace B := kB1 B hb
      clear hb
      obtain ⟨qa0, qa1, qa2, qa3⟩ := Ka.out
      have hza := lF Ka
      go_wp2_with fail
      refine (wtext_any n1 A1 l1 c1 _ S1.out).mono ?_
      rw [e2.out]
      rintro e w2 ⟨rfl, hb⟩
      clear qa0 qa1 qa2 qa3
      replace S1 := kS S1 hb
      replace S2 := kS S2 hb
      replace Ka := kF Ka hb
      replace B := kB B hb
      clear hb
      obtain ⟨qa0, qa1, qa2, qa3⟩ := Ka.out
      replace hza := lF Ka
      go_wp2_with fail
      have KaX : Hid (Cf w2.drew w.heap.size n1 A1 l1.length c1 n2 A2 l2.length c2) := Cf.drew Ka.out
      have S2X : Hid (Sl w2.drew A2 l2 c2) := Sl.drew S2.out
      have BX : Hid (Below w.heap.size w w2.drew) := Below.drew B.out
      clear S1 S2 B
      go_region_with (first
        | (go_at_call 51; refine (hO.out _).mono ?_; rintro e x1 ⟨A3, c3, rfl, hs3, hb⟩; (try dsimp only at hs3); (try dsimp only); have S3 := Lib.hid hs3; have Ka1 := Lib.hid (KaX.out.keep hb); obtain ⟨u0, u1, u2, u3⟩ := Ka1.out; have S21 := Lib.hid (S2X.out.below hb); have B1 := Lib.hid (below_mono BX.out hb); clear hb hs3)
        | (go_at_call 63; refine (fsame_any n2 no _ _ l2 lo _ _ _ S21.out S3.out).mono ?_; rw [e5.out]; rintro e x2 ⟨rfl, hb⟩; have Ka2 := Lib.hid (Ka1.out.keep hb); obtain ⟨v0, v1, v2, v3⟩ := Ka2.out; have S22 := Lib.hid (S21.out.below hb); have B2 := Lib.hid (below_mono B1.out hb); clear hb))
      all_goals (go_wp2; go_ret2; exact ⟨rfl, B2.out⟩)
    · rw [if_neg hone]
      have e5 := Lib.hid (e4.trans (decide_eq_false hone))
      clear hs1 hs2 hb va ho vo e4 hone
      go_enter Tryz.func12, Tryz.ntmps12
      go_wp2_with fail
      refine (fcheck_any n1 n2 A1 A2 l1 l2 c1 c2 _ (S1.out.alloc _) (S2.out.alloc _)).mono ?_
      rw [e1.out]
      rintro e w1 ⟨rfl, hb⟩
      replace S1 := kS1 S1 hb
      replace S2 := kS1 S2 hb
      have Ka : Hid (Cf w1 w.heap.size n1 A1 l1.length c1 n2 A2 l2.length c2) := Cf.keep (Cf.fresh (by simp) _ _ _ _ _ _ _ _ _) hb
      replace B := kB1 B hb
      clear hb
      obtain ⟨qa0, qa1, qa2, qa3⟩ := Ka.out
      have hza := lF Ka
      go_wp2_with fail
      refine (wtext_any n1 A1 l1 c1 _ S1.out).mono ?_
      rw [e2.out]
      rintro e w2 ⟨rfl, hb⟩
      clear qa0 qa1 qa2 qa3
      replace S1 := kS S1 hb
      replace S2 := kS S2 hb
      replace Ka := kF Ka hb
      replace B := kB B hb
      clear hb
      obtain ⟨qa0, qa1, qa2, qa3⟩ := Ka.out
      replace hza := lF Ka
      go_wp2_with fail
      have KaX : Hid (Cf w2.drew w.heap.size n1 A1 l1.length c1 n2 A2 l2.length c2) := Cf.drew Ka.out
      have S2X : Hid (Sl w2.drew A2 l2 c2) := Sl.drew S2.out
      have BX : Hid (Below w.heap.size w w2.drew) := Below.drew B.out
      clear S1 S2 B
      go_region_with (first
        | (go_at_call 51; refine (hO.out _).mono ?_; rintro e x1 ⟨A3, c3, rfl, hs3, hb⟩; (try dsimp only at hs3); (try dsimp only); have S3 := Lib.hid hs3; have Ka1 := Lib.hid (KaX.out.keep hb); obtain ⟨u0, u1, u2, u3⟩ := Ka1.out; have S21 := Lib.hid (S2X.out.below hb); have B1 := Lib.hid (below_mono BX.out hb); clear hb hs3)
        | (go_at_call 63; refine (fsame_any n2 no _ _ l2 lo _ _ _ S21.out S3.out).mono ?_; rw [e5.out]; rintro e x2 ⟨rfl, hb⟩; have Ka2 := Lib.hid (Ka1.out.keep hb); obtain ⟨v0, v1, v2, v3⟩ := Ka2.out; have S22 := Lib.hid (S21.out.below hb); have B2 := Lib.hid (below_mono B1.out hb); clear hb))
      all_goals
        go_wp2_with fail
        refine (wtext_any n2 A2 l2 c2 _ S22.out).mono ?_
        rw [e3.out]
        rintro e x3 ⟨rfl, hb⟩
        have B3 := Lib.hid (below_mono B2.out hb)
        clear hb
        have g1 : ¬ 9223372036854775807 < s1.length + 1 := by omega
        have g2 : ¬ 9223372036854775807 < s1.length + 1 + s2.length := by omega
        have hs : ((({ data := s1.toArray } : ByteArray) ++ { data := #[47] } ++ { data := s2.toArray }) : ByteArray) = { data := (s1 ++ 47 :: s2).toArray } := by apply ByteArray.ext; simp
        go_wp2
        exact bodyPost_ret (v := .tuple #[.string ⟨(s1 ++ 47 :: s2).toArray⟩, .int .i64 0]) (by simp [results, Tryz.results12, go_sem]) rfl ⟨rfl, B3.out⟩

end Go.Proofs.YtmelbahbjdogdaaGreatDoor

/- The walk of the law FracBack. -/
import Derived.Test.YtmelbahbjdogdaaGreatDoorF29
import Derived.Test.YtmelbahbjdogdaaGreatDoorF15
import Derived.Test.YtmelbahbjdogdaaGreatDoorFMathC
import Derived.Test.YtmelbahbjdogdaaGreatDoorF13
import Derived.Test.YtmelbahbjdogdaaGreatDoorF10
import Derived.Test.YtmelbahbjdogdaaGreatDoorW42
import Derived.Deep.RegionHeld3
import Derived.Deep.CutRange
namespace Go.Proofs.YtmelbahbjdogdaaGreatDoor
open Go.RowKit
attribute [local go_sem ↓] Go.wp_at_zero Go.wp_at_succ
set_option maxRecDepth 100000 in
set_option maxHeartbeats 4000000 in
theorem fracBack_walk0 (na nb : Bool) (Aa Ab : Option Addr) (la lb : List Nat) (ca cb : Nat) (kd : Nat) (hkd : kd < 256) (w : World) (hsa : Sl w Aa la ca) (hsb : Sl w Ab lb cb) :
    Calls Tryz.prog 5 #[.agg #[.bool na, .slice Aa la.length ca, .bool nb, .slice Ab lb.length cb], .int .u8 (kd : Int)] w fun e w' => e = .returned (.bool true) ∧ Below w.heap.size w w' := by
  have Sa1 := Lib.hid hsa
  have Sa2 := Lib.hid hsb
  have B : Hid (Below w.heap.size w w) := Below.refl _ _
  have hkm : kd % 51 ≤ 50 := by omega
  cases hgr : greatF la lb with
  | true =>
    have HG := Lib.hid hgr
    clear hgr hsa hsb
    go_enter Tryz.func5, Tryz.ntmps5
    go_wp2_with fail
    refine (alive_true2 _).mono ?_
    rintro e w1 ⟨rfl, hb⟩
    replace Sa1 := kS1 Sa1 hb
    replace Sa2 := kS1 Sa2 hb
    have Ka : Hid (Cf w1 w.heap.size na Aa la.length ca nb Ab lb.length cb) := Cf.keep (Cf.fresh (by simp) _ _ _ _ _ _ _ _ _) hb
    replace B := kB1 B hb
    clear hb
    have hza := lF Ka
    obtain ⟨qa0, qa1, qa2, qa3⟩ := Ka.out
    go_wp2_with fail
    refine (fgreat_any na nb _ _ la lb _ _ _).mono ?_
    rw [HG.out]
    rintro e w2 ⟨rfl, hb⟩
    clear qa0 qa1 qa2 qa3
    replace Sa1 := kS Sa1 hb
    replace Sa2 := kS Sa2 hb
    replace Ka := kF Ka hb
    replace B := kB B hb
    clear hb
    replace hza := lF Ka
    go_wp2
    go_ret
    exact ⟨rfl, B.out⟩
  | false =>
    have HG := Lib.hid hgr
    clear hgr
    cases hbad : badF na la nb lb with
    | true =>
      have E1 : Hid (chkF na la nb lb = 8) := by unfold chkF; rw [hbad]; rfl
      clear hbad hsa hsb
      go_enter Tryz.func5, Tryz.ntmps5
      go_wp2_with fail
      refine (alive_true2 _).mono ?_
      rintro e w1 ⟨rfl, hb⟩
      replace Sa1 := kS1 Sa1 hb
      replace Sa2 := kS1 Sa2 hb
      have Ka : Hid (Cf w1 w.heap.size na Aa la.length ca nb Ab lb.length cb) := Cf.keep (Cf.fresh (by simp) _ _ _ _ _ _ _ _ _) hb
      replace B := kB1 B hb
      clear hb
      have hza := lF Ka
      obtain ⟨qa0, qa1, qa2, qa3⟩ := Ka.out
      go_wp2_with fail
      refine (fgreat_any na nb _ _ la lb _ _ _).mono ?_
      rw [HG.out]
      rintro e w2 ⟨rfl, hb⟩
      clear qa0 qa1 qa2 qa3
      replace Sa1 := kS Sa1 hb
      replace Sa2 := kS Sa2 hb
      replace Ka := kF Ka hb
      replace B := kB B hb
      clear hb
      replace hza := lF Ka
      obtain ⟨qa0, qa1, qa2, qa3⟩ := Ka.out
      go_wp2_with fail
      refine (rfcheck_any na nb _ _ la lb _ _ _ Sa1.out Sa2.out).mono ?_
      rw [E1.out]
      rintro e w3 ⟨rfl, hb⟩
      clear qa0 qa1 qa2 qa3
      replace Sa1 := kS Sa1 hb
      replace Sa2 := kS Sa2 hb
      replace Ka := kF Ka hb
      replace B := kB B hb
      clear hb
      replace hza := lF Ka
      go_wp2
      go_ret
      exact ⟨rfl, B.out⟩
    | false =>
      have E1 : Hid (chkF na la nb lb = 0) := by unfold chkF; rw [hbad]; rfl
      cases hfew : decide (15 < fewS la lb) with
      | true =>
        clear hbad hsa hsb
        go_enter Tryz.func5, Tryz.ntmps5
        go_wp2_with fail
        refine (alive_true2 _).mono ?_
        rintro e w1 ⟨rfl, hb⟩
        replace Sa1 := kS1 Sa1 hb
        replace Sa2 := kS1 Sa2 hb
        have Ka : Hid (Cf w1 w.heap.size na Aa la.length ca nb Ab lb.length cb) := Cf.keep (Cf.fresh (by simp) _ _ _ _ _ _ _ _ _) hb
        replace B := kB1 B hb
        clear hb
        have hza := lF Ka
        obtain ⟨qa0, qa1, qa2, qa3⟩ := Ka.out
        go_wp2_with fail
        refine (fgreat_any na nb _ _ la lb _ _ _).mono ?_
        rw [HG.out]
        rintro e w2 ⟨rfl, hb⟩
        clear qa0 qa1 qa2 qa3
        replace Sa1 := kS Sa1 hb
        replace Sa2 := kS Sa2 hb
        replace Ka := kF Ka hb
        replace B := kB B hb
        clear hb
        replace hza := lF Ka
        obtain ⟨qa0, qa1, qa2, qa3⟩ := Ka.out
        go_wp2_with fail
        refine (rfcheck_any na nb _ _ la lb _ _ _ Sa1.out Sa2.out).mono ?_
        rw [E1.out]
        rintro e w3 ⟨rfl, hb⟩
        clear qa0 qa1 qa2 qa3
        replace Sa1 := kS Sa1 hb
        replace Sa2 := kS Sa2 hb
        replace Ka := kF Ka hb
        replace B := kB B hb
        clear hb
        replace hza := lF Ka
        obtain ⟨qa0, qa1, qa2, qa3⟩ := Ka.out
        go_wp2_with fail
        refine (few_any na nb _ _ la lb _ _ _).mono ?_
        rintro e w4 ⟨rfl, hb⟩
        clear qa0 qa1 qa2 qa3
        replace Sa1 := kS Sa1 hb
        replace Sa2 := kS Sa2 hb
        replace Ka := kF Ka hb
        replace B := kB B hb
        clear hb
        replace hza := lF Ka
        go_wp2
        go_ret
        exact ⟨rfl, B.out⟩
      | false =>
        obtain ⟨sT, hsT⟩ : ∃ s, s = if zv nb lb = 1 then textZ na (val la) else textZ na (val la) ++ 47 :: textZ nb (val lb) := ⟨_, rfl⟩
        have va := vf_of hsa.lim hsb.lim hbad
        have hfw : la.length ≤ 15 ∧ lb.length ≤ 15 := by have := of_decide_eq_false hfew; unfold fewS at this; omega
        have ET : Hid (ftextS na la nb lb = (sT, 0)) := by rw [Hid, ftextS, hbad, if_neg (by simp), hsT]; split <;> rfl
        obtain ⟨⟨⟨⟨nm, lm⟩, ⟨nk, lk⟩⟩, kf⟩, hkf⟩ : ∃ p, p = parF sT := ⟨_, rfl⟩
        replace hkf := hkf.symm
        have EP : Hid ((na = nm ∧ la = lm ∧ nb = nk ∧ lb = lk ∧ kf = 0 ∧ sT.length ≤ 200) ∨ (kf = 12 ∧ 200 < sT.length)) := by
          rcases Nat.lt_or_ge 200 sT.length with h | h
          · refine .inr ⟨?_, h⟩
            have : parF sT = (zF, 12) := by unfold parF parQ; rw [if_pos h]
            rw [this] at hkf
            exact (congrArg Prod.snd hkf).symm
          · refine .inl ?_
            rw [par_text va sT hsT h] at hkf
            simp only [Prod.mk.injEq] at hkf
            obtain ⟨⟨⟨a1, a2⟩, a3, a4⟩, a5⟩ := hkf
            exact ⟨a1, a2, a3, a4, a5.symm, h⟩
        have hsl : sT.length ≤ 3000 := by
          have g : ∀ (l : List Nat) (n : Bool), Lim l → l.length ≤ 15 → (textZ n (val l)).length ≤ 1000 := fun l n hl h => by
            have h1 := val_lt hl
            have h2 : val l < 2 ^ (32 * l.length) := by rw [Nat.pow_mul, show (2 : Nat) ^ 32 = 4294967296 from rfl]; exact h1
            have h3 := text_len (n := n) h2
            omega
          have g1 := g la na hsa.lim hfw.1
          have g2 := g lb nb hsb.lim hfw.2
          rw [hsT]
          split
          · omega
          · rw [List.length_append, List.length_cons]; omega
        obtain ⟨z, hz⟩ : ∃ z, z = rndS (zv na la * 10 ^ (kd % 51)) (zv nb lb) := ⟨_, rfl⟩
        have ED : Hid (fdecS na la nb lb ((kd : Int) % 51) = (decTxt z (kd % 51), 0)) := by rw [Hid, show (kd : Int) % 51 = ((kd % 51 : Nat) : Int) by omega, fdecS, hbad, if_neg (by simp), if_neg (by omega), Int.toNat_natCast, ← hz]
        obtain ⟨⟨⟨nc, lc⟩, ⟨nd, ld⟩⟩, ⟨⟨ne, le⟩, ⟨nf, lf⟩⟩, ⟨⟨ng, lg⟩, ⟨nh, lh⟩⟩, r, b1, b2, b3, b4, b5, b6, b7, b8, b9⟩ := back_facts va hfw.1 hfw.2 hkm hz
        have EQ : Hid (200 < (decTxt z (kd % 51)).length ∨ (parF (decTxt z (kd % 51)) = (((nc, lc), (nd, ld)), 0) ∧ (decTxt z (kd % 51)).length ≤ 200)) := by
          rcases Nat.lt_or_ge 200 (decTxt z (kd % 51)).length with h | h
          · exact .inl h
          · exact .inr ⟨by unfold parF; rw [par_dec z _ h]; exact b1, h⟩
        obtain ⟨⟨no, lo⟩, ho⟩ : ∃ p, p = wOf 1 := ⟨_, rfl⟩
        obtain ⟨⟨n2, l2⟩, h2⟩ : ∃ p, p = wOf 2 := ⟨_, rfl⟩
        obtain ⟨⟨nt, lt⟩, ht⟩ : ∃ p, p = wOf (10 : Int) := ⟨_, rfl⟩
        obtain ⟨⟨np, lp⟩, hp⟩ : ∃ p, p = p10 (kd % 51) := ⟨_, rfl⟩
        have vo := vz_mk ho fit_one
        have vt := vz_mk ht (fit_ten (k := 1) (by decide) (by omega))
        have vp : VZ np lp ((10 : Int) ^ (kd % 51)) := vz_mk hp (fit_pow10 (by omega))
        have hTen : Hid (∀ W, Calls Tryz.prog 30 #[.int .i64 10] W (WRes1 (nt, lt) W)) := fun W => by rw [ht]; exact rfrom_any 10 W (by omega) (by omega)
        have hOne : Hid (∀ W, Calls Tryz.prog 30 #[.int .i64 1] W (WRes1 (no, lo) W)) := fun W => by rw [ho]; exact rfrom_any 1 W (by omega) (by omega)
        have e1 : powS nt lt ((kd : Int) % 51) = ((np, lp), 0) := by rw [hp, show (kd : Int) % 51 = ((kd % 51 : Nat) : Int) by omega]; exact powS_z vt (by omega) (fit_pow10 (by omega))
        have hPow : Hid (∀ W A c, Sl W A lt c → Calls Tryz.prog 29 #[.agg #[.bool nt, .slice A lt.length c], .int .i64 ((kd : Int) % 51)] W (WRes ((np, lp), 0) W)) := fun W A c h => by rw [← e1]; exact rpow_any nt A lt c ((kd : Int) % 51) W h
        have hRed : Hid (∀ W A B c d, Sl W A lo c → Sl W B lp d → Calls Tryz.prog 31 #[.agg #[.bool no, .slice A lo.length c], .agg #[.bool np, .slice B lp.length d]] W (FRes1 ((no, lo), (np, lp)) W)) := fun W A B c d q1 q2 => by
          have h := rreduced_any no np A B lo lp c d 1 _ vo vp (by have : (0 : Int) < 10 ^ (kd % 51) := Int.pow_pos (by decide); omega) W q1 q2
          rw [b6, ← ho, ← hp] at h
          exact h
        have hPart : Hid (∀ W, Calls Tryz.prog 33 #[.int .i64 1, .int .i64 2] W (FRes1 ((no, lo), (n2, l2)) W)) := fun W => by
          have h := part_any 1 2 (by omega) (by omega) (by omega) (by omega) W
          rw [congrArg Prod.fst (of_low (x := 1) (y := 2) (a := 1) (b := 2) (by omega) (by omega) (by omega) (by decide) (by decide) (by decide)), ← ho, ← h2] at h
          exact h
        rw [← ho, ← h2, ← hp] at b7
        have hMul : Hid (∀ W A B C D c d e f, Sl W A lo c → Sl W B lp d → Sl W C lo e → Sl W D l2 f → Calls Tryz.prog 32 #[.agg #[.bool no, .slice A lo.length c, .bool np, .slice B lp.length d], .agg #[.bool no, .slice C lo.length e, .bool n2, .slice D l2.length f]] W (FRes (((ng, lg), (nh, lh)), 0) W)) := fun W A B C D c d e f q1 q2 q3 q4 => by
          rw [← b7]
          exact rmulF_any no np no n2 A B C D lo lp lo l2 c d e f W q1 q2 q3 q4
        have HBAD := Lib.hid hbad
        have C1 := Lib.hid b2
        have C2 := Lib.hid b5
        have C5 := Lib.hid b8
        clear hbad va hsT hz b1 b2 b5 b6 b7 b8 hsa hsb ho h2 ht hp vo vt vp e1
        generalize decTxt z (kd % 51) = tD at *
        go_enter Tryz.func5, Tryz.ntmps5
        go_wp2_with fail
        refine (alive_true2 _).mono ?_
        rintro e w1 ⟨rfl, hb⟩
        replace Sa1 := kS1 Sa1 hb
        replace Sa2 := kS1 Sa2 hb
        have Ka : Hid (Cf w1 w.heap.size na Aa la.length ca nb Ab lb.length cb) := Cf.keep (Cf.fresh (by simp) _ _ _ _ _ _ _ _ _) hb
        replace B := kB1 B hb
        clear hb
        have hza := lF Ka
        obtain ⟨qa0, qa1, qa2, qa3⟩ := Ka.out
        go_wp2_with fail
        refine (fgreat_any na nb _ _ la lb _ _ _).mono ?_
        rw [HG.out]
        rintro e w2 ⟨rfl, hb⟩
        clear qa0 qa1 qa2 qa3
        replace Sa1 := kS Sa1 hb
        replace Sa2 := kS Sa2 hb
        replace Ka := kF Ka hb
        replace B := kB B hb
        clear hb
        replace hza := lF Ka
        obtain ⟨qa0, qa1, qa2, qa3⟩ := Ka.out
        go_wp2_with fail
        refine (rfcheck_any na nb _ _ la lb _ _ _ Sa1.out Sa2.out).mono ?_
        rw [E1.out]
        rintro e w3 ⟨rfl, hb⟩
        clear qa0 qa1 qa2 qa3
        replace Sa1 := kS Sa1 hb
        replace Sa2 := kS Sa2 hb
        replace Ka := kF Ka hb
        replace B := kB B hb
        clear hb
        replace hza := lF Ka
        obtain ⟨qa0, qa1, qa2, qa3⟩ := Ka.out
        go_wp2_with fail
        refine (few_any na nb _ _ la lb _ _ _).mono ?_
        rintro e w4 ⟨rfl, hb⟩
        clear qa0 qa1 qa2 qa3
        replace Sa1 := kS Sa1 hb
        replace Sa2 := kS Sa2 hb
        replace Ka := kF Ka hb
        replace B := kB B hb
        clear hb
        replace hza := lF Ka
        obtain ⟨qa0, qa1, qa2, qa3⟩ := Ka.out
        go_wp2_with fail
        refine (ftext_any na nb _ _ la lb _ _ _ Sa1.out Sa2.out).mono ?_
        rw [ET.out]
        rintro e w5 ⟨rfl, hb⟩
        clear qa0 qa1 qa2 qa3
        replace Sa1 := kS Sa1 hb
        replace Sa2 := kS Sa2 hb
        replace Ka := kF Ka hb
        replace B := kB B hb
        clear hb
        replace hza := lF Ka
        (try dsimp only)
        have EPF := Lib.hid hkf
        clear hkf
        go_wp2_with fail
        refine (fparse_any sT hsl _).mono ?_
        rw [EPF.out]
        rintro e w6 ⟨A6, c6, B6, d6, rfl, hs6, ht6, hb⟩
        replace Sa1 := kS Sa1 hb
        replace Sa2 := kS Sa2 hb
        replace Ka := kF Ka hb
        replace B := kB B hb
        clear hb
        (try dsimp only at hs6 ht6)
        (try dsimp only)
        have Sb1 : Hid (Sl w6 A6 lm c6) := hs6
        clear hs6
        have Sb2 : Hid (Sl w6 B6 lk d6) := ht6
        clear ht6
        replace hza := lF Ka
        have hkab := hza
        go_upto_region 7 with fail
        replace Sa1 : Hid (Sl (w6.alloc (.cells #[.bool nm, .slice A6 lm.length c6, .bool nk, .slice B6 lk.length d6] 26)) Aa la ca) := (Sa1.out.alloc _)
        replace Sa2 : Hid (Sl (w6.alloc (.cells #[.bool nm, .slice A6 lm.length c6, .bool nk, .slice B6 lk.length d6] 26)) Ab lb cb) := (Sa2.out.alloc _)
        replace Sb1 : Hid (Sl (w6.alloc (.cells #[.bool nm, .slice A6 lm.length c6, .bool nk, .slice B6 lk.length d6] 26)) A6 lm c6) := (Sb1.out.alloc _)
        replace Sb2 : Hid (Sl (w6.alloc (.cells #[.bool nm, .slice A6 lm.length c6, .bool nk, .slice B6 lk.length d6] 26)) B6 lk d6) := (Sb2.out.alloc _)
        replace Ka : Hid (Cf (w6.alloc (.cells #[.bool nm, .slice A6 lm.length c6, .bool nk, .slice B6 lk.length d6] 26)) w.heap.size na Aa la.length ca nb Ab lb.length cb) := (Cf.keep Ka.out (blw1 _ _))
        have Kb : Hid (Cf (w6.alloc (.cells #[.bool nm, .slice A6 lm.length c6, .bool nk, .slice B6 lk.length d6] 26)) w6.heap.size nm A6 lm.length c6 nk B6 lk.length d6) := (Cf.fresh (by simp) _ _ _ _ _ _ _ _ _)
        replace B : Hid (Below w.heap.size w (w6.alloc (.cells #[.bool nm, .slice A6 lm.length c6, .bool nk, .slice B6 lk.length d6] 26))) := (below_mono B.out (blw1 _ _))
        generalize w6.alloc (.cells #[.bool nm, .slice A6 lm.length c6, .bool nk, .slice B6 lk.length d6] 26) = wq at *
        have hza := lF Ka
        have hzb := lF Kb
        obtain ⟨qa0, qa1, qa2, qa3⟩ := Ka.out
        obtain ⟨qb0, qb1, qb2, qb3⟩ := Kb.out
        rcases EP.out with ⟨rfl, rfl, rfl, rfl, rfl, hl⟩ | ⟨rfl, hl⟩
        case' inl =>
          have t1 : decide (sT.length ≤ 200) = true := decide_eq_true hl
          go_wp2_with fail
          refine (fsame_eq na nb _ _ _ _ la lb _ _ _ _ _ Sa1.out Sa2.out Sb1.out Sb2.out).mono ?_
          rintro e w7 ⟨rfl, hb⟩
          clear qa0 qa1 qa2 qa3 qb0 qb1 qb2 qb3
          replace Sa1 := kS Sa1 hb
          replace Sa2 := kS Sa2 hb
          replace Sb1 := kS Sb1 hb
          replace Sb2 := kS Sb2 hb
          replace Ka := kF Ka hb
          replace Kb := kF Kb hb
          replace B := kB B hb
          clear hb
          clear Sb1
          clear Sb2
          clear Kb
          replace hza := lF Ka
        case' inr =>
          have t1 : decide (sT.length ≤ 200) = false := decide_eq_false (by omega)
          have t2 : decide ((sT.length : Int) ≤ 200) = false := decide_eq_false (by omega)
          clear qa0 qa1 qa2 qa3 qb0 qb1 qb2 qb3
          clear Sb1
          clear Sb2
          clear Kb
          generalize wq = w7 at *
        all_goals clear hl t1 EP EPF
        all_goals
          obtain ⟨qa0, qa1, qa2, qa3⟩ := Ka.out
          go_wp2_with fail
          refine (fdec_ok na nb _ _ la lb _ _ ((kd : Int) % 51) HBAD.out (by omega) (by omega) (by omega) (by omega) _ Sa1.out Sa2.out).mono ?_
          rw [ED.out]
          rintro e w8 ⟨rfl, hb⟩
          clear qa0 qa1 qa2 qa3
          replace Sa1 := kS Sa1 hb
          replace Sa2 := kS Sa2 hb
          replace Ka := kF Ka hb
          replace B := kB B hb
          clear hb
          replace hza := lF Ka
          (try dsimp only)
          rcases EQ.out with hq | hq
          · have t1 : decide (200 < tD.length) = true := decide_eq_true hq
            have t2 : decide ((200 : Int) < (tD.length : Int)) = true := decide_eq_true (by omega)
            clear hq
            go_wp2
            go_ret
            exact ⟨rfl, B.out⟩
          obtain ⟨hq, hq2⟩ := hq
          have EQ2 := Lib.hid hq
          have t1 : decide (200 < tD.length) = false := decide_eq_false (by omega)
          have t2 : decide ((200 : Int) < (tD.length : Int)) = false := decide_eq_false (by omega)
          clear hq EQ
          go_wp2_with fail
          refine (fparse_any tD (by omega) _).mono ?_
          rw [EQ2.out]
          rintro e w9 ⟨A9, c9, B9, d9, rfl, hs9, ht9, hb⟩
          replace Sa1 := kS Sa1 hb
          replace Sa2 := kS Sa2 hb
          replace Ka := kF Ka hb
          replace B := kB B hb
          clear hb
          (try dsimp only at hs9 ht9)
          (try dsimp only)
          have Sc1 : Hid (Sl w9 A9 lc c9) := hs9
          clear hs9
          have Sc2 : Hid (Sl w9 B9 ld d9) := ht9
          clear ht9
          replace hza := lF Ka
          have hkac := hza
          obtain ⟨qa0, qa1, qa2, qa3⟩ := Ka.out
          go_wp2_with fail
          refine (rfcheck_any nc nd _ _ lc ld _ _ _ (Sc1.out.alloc _) (Sc2.out.alloc _)).mono ?_
          rw [C1.out]
          rintro e w10 ⟨rfl, hb⟩
          clear qa0 qa1 qa2 qa3
          replace Sa1 := kS1 Sa1 hb
          replace Sa2 := kS1 Sa2 hb
          replace Sc1 := kS1 Sc1 hb
          replace Sc2 := kS1 Sc2 hb
          replace Ka := kF1 Ka hb
          have Kc : Hid (Cf w10 w9.heap.size nc A9 lc.length c9 nd B9 ld.length d9) := Cf.keep (Cf.fresh (by simp) _ _ _ _ _ _ _ _ _) hb
          replace B := kB1 B hb
          clear hb
          replace hza := lF Ka
          have hzc := lF Kc
          have t3 : decide (30 < fewS lc ld) = false := decide_eq_false (by unfold fewS; omega)
          obtain ⟨qa0, qa1, qa2, qa3⟩ := Ka.out
          obtain ⟨qc0, qc1, qc2, qc3⟩ := Kc.out
          go_wp2_with fail
          refine (few_any nc nd _ _ lc ld _ _ _).mono ?_
          rintro e w11 ⟨rfl, hb⟩
          clear qa0 qa1 qa2 qa3 qc0 qc1 qc2 qc3
          replace Sa1 := kS Sa1 hb
          replace Sa2 := kS Sa2 hb
          replace Sc1 := kS Sc1 hb
          replace Sc2 := kS Sc2 hb
          replace Ka := kF Ka hb
          replace Kc := kF Kc hb
          replace B := kB B hb
          clear hb
          replace hza := lF Ka
          replace hzc := lF Kc
          obtain ⟨qa0, qa1, qa2, qa3⟩ := Ka.out
          obtain ⟨qc0, qc1, qc2, qc3⟩ := Kc.out
          go_wp2_with fail
          refine (rsubF_any na nb nc nd _ _ _ _ la lb lc ld _ _ _ _ _ Sa1.out Sa2.out Sc1.out Sc2.out).mono ?_
          rw [C2.out]
          rintro e w12 ⟨A12, c12, B12, d12, rfl, hs12, ht12, hb⟩
          clear qa0 qa1 qa2 qa3 qc0 qc1 qc2 qc3
          replace Sa1 := kS Sa1 hb
          replace Sa2 := kS Sa2 hb
          replace Sc1 := kS Sc1 hb
          replace Sc2 := kS Sc2 hb
          replace Ka := kF Ka hb
          replace Kc := kF Kc hb
          replace B := kB B hb
          clear hb
          (try dsimp only at hs12 ht12)
          (try dsimp only)
          have Sd1 : Hid (Sl w12 A12 le c12) := hs12
          clear hs12
          have Sd2 : Hid (Sl w12 B12 lf d12) := ht12
          clear ht12
          replace hza := lF Ka
          replace hzc := lF Kc
          have hkad := hza
          have hkcd := hzc
          clear Sc1
          clear Sc2
          clear Kc
          go_wp2_with fail
          refine (hTen.out _).mono ?_
          rintro e w13 ⟨A13, c13, rfl, hs13, hb⟩
          replace Sa1 := kS1 Sa1 hb
          replace Sa2 := kS1 Sa2 hb
          replace Sd1 := kS1 Sd1 hb
          replace Sd2 := kS1 Sd2 hb
          replace Ka := kF1 Ka hb
          have Kd : Hid (Cf w13 w12.heap.size false A12 le.length c12 nf B12 lf.length d12) := Cf.keep (Cf.fresh (by simp) _ _ _ _ _ _ _ _ _) hb
          replace B := kB1 B hb
          clear hb
          (try dsimp only at hs13)
          (try dsimp only)
          have St : Hid (Sl w13 A13 lt c13) := hs13
          clear hs13
          replace hza := lF Ka
          have hzd := lF Kd
          go_wp2_with fail
          refine (hPow.out _ _ _ St.out).mono ?_
          rintro e w14 ⟨A14, c14, rfl, hs14, hb⟩
          replace Sa1 := kS Sa1 hb
          replace Sa2 := kS Sa2 hb
          replace Sd1 := kS Sd1 hb
          replace Sd2 := kS Sd2 hb
          replace St := kS St hb
          replace Ka := kF Ka hb
          replace Kd := kF Kd hb
          replace B := kB B hb
          clear hb
          (try dsimp only at hs14)
          (try dsimp only)
          clear St
          have Sp : Hid (Sl w14 A14 lp c14) := hs14
          clear hs14
          replace hza := lF Ka
          replace hzd := lF Kd
          have hkap := hza
          have hkdp := hzd
          go_upto_region 20 with fail
          replace Sa1 : Hid (Sl (w14.alloc (.cells #[.bool np, .slice A14 lp.length c14] 24)) Aa la ca) := (Sa1.out.alloc _)
          replace Sa2 : Hid (Sl (w14.alloc (.cells #[.bool np, .slice A14 lp.length c14] 24)) Ab lb cb) := (Sa2.out.alloc _)
          replace Sd1 : Hid (Sl (w14.alloc (.cells #[.bool np, .slice A14 lp.length c14] 24)) A12 le c12) := (Sd1.out.alloc _)
          replace Sd2 : Hid (Sl (w14.alloc (.cells #[.bool np, .slice A14 lp.length c14] 24)) B12 lf d12) := (Sd2.out.alloc _)
          replace Sp : Hid (Sl (w14.alloc (.cells #[.bool np, .slice A14 lp.length c14] 24)) A14 lp c14) := (Sp.out.alloc _)
          replace Ka : Hid (Cf (w14.alloc (.cells #[.bool np, .slice A14 lp.length c14] 24)) w.heap.size na Aa la.length ca nb Ab lb.length cb) := (Cf.keep Ka.out (blw1 _ _))
          replace Kd : Hid (Cf (w14.alloc (.cells #[.bool np, .slice A14 lp.length c14] 24)) w12.heap.size false A12 le.length c12 nf B12 lf.length d12) := (Cf.keep Kd.out (blw1 _ _))
          have Kp : Hid (Cw (w14.alloc (.cells #[.bool np, .slice A14 lp.length c14] 24)) w14.heap.size np A14 lp.length c14) := (Cw.fresh (by simp) _ _ _ _ _)
          replace B : Hid (Below w.heap.size w (w14.alloc (.cells #[.bool np, .slice A14 lp.length c14] 24))) := (below_mono B.out (blw1 _ _))
          generalize w14.alloc (.cells #[.bool np, .slice A14 lp.length c14] 24) = wy at *
          have hza := lF Ka
          have hzd := lF Kd
          have hzp := lW Kp
          obtain ⟨qp0, qp1⟩ := Kp.out
          clear qp0 qp1
          go_cut [19] from 123 to 125 (fun s19 wx => ∃ (gu : Nat) (A21 : Option Addr) (c21 : Nat) (A22 : Option Addr) (c22 : Nat), s19 = .pointer (some ⟨gu, 0, none⟩) ∧ wy.heap.size ≤ gu ∧ Cf wx gu no A21 lo.length c21 np A22 lp.length c22 ∧ Sl wx A21 lo c21 ∧ Sl wx A22 lp c22 ∧ Below wy.heap.size wy wx)
          case first =>
            have K0 : Hid (Cw wy.drew w14.heap.size np A14 lp.length c14) := Kp.out
            have Lp_0 : Hid (Sl wy.drew A14 lp c14) := Sl.drew Sp.out
            have Y0 : Hid (Below wy.heap.size wy wy.drew) := (Below.refl _ _).drew
            have J0 : Hid (wy.drew.cell? ⟨w14.heap.size, 0, none⟩ = some (.bool np) ∧ wy.drew.cell? ⟨w14.heap.size, 1, none⟩ = some (.slice A14 lp.length c14)) := ⟨K0.out.1, K0.out.2⟩
            have J0a : Hid ((wy.alloc (.cells #[.bool false, .slice none 0 0, .bool false, .slice none 0 0] 26)).drew.cell? ⟨w14.heap.size, 0, none⟩ = some (.bool np) ∧ (wy.alloc (.cells #[.bool false, .slice none 0 0, .bool false, .slice none 0 0] 26)).drew.cell? ⟨w14.heap.size, 1, none⟩ = some (.slice A14 lp.length c14)) := keep2 (blw1 wy.drew (.cells #[.bool false, .slice none 0 0, .bool false, .slice none 0 0] 26)) J0.out
            go_region_held3 (fun w' => w'.cell? ⟨w14.heap.size, 0, none⟩ = some (.bool np) ∧ w'.cell? ⟨w14.heap.size, 1, none⟩ = some (.slice A14 lp.length c14))
              (first | with_reducible exact J2.out | with_reducible exact J1.out | with_reducible exact J0.out | with_reducible exact J0a.out | with_reducible exact keep2 (blw1 _ _) J2.out | with_reducible exact keep2 (blw1 _ _) J1.out | with_reducible exact keep2 (blw1 _ _) J0.out | ((with_reducible refine farF2 J2.out ?_ _ _ _ _); omega))
              (first
                | (go_at_call 30; first | ((with_reducible refine (hOne.out wy.drew).mono ?_); rintro e v1 ⟨A20, c20, rfl, hs20, hb⟩; (try dsimp only at hs20); (try dsimp only); have LQ1_1 : Hid (Sl v1 A20 lo c20) := hs20; have Lp_1 : Hid (Sl v1 A14 lp c14) := Sl.below (Lp_0.out) hb; have K1 : Hid (Cw v1 w14.heap.size np A14 lp.length c14) := Cw.keep K0.out hb; have Y1 : Hid (Below wy.heap.size wy v1) := below_mono Y0.out hb; have J1 : Hid (v1.cell? ⟨w14.heap.size, 0, none⟩ = some (.bool np) ∧ v1.cell? ⟨w14.heap.size, 1, none⟩ = some (.slice A14 lp.length c14)) := ⟨K1.out.1, K1.out.2⟩; have hlt1 : w14.heap.size < v1.heap.size := lt_of_cell (a := ⟨w14.heap.size, 0, none⟩) K1.out.1; clear hb hs20) | ((with_reducible refine (hOne.out ((wy.alloc (.cells #[.bool false, .slice none 0 0, .bool false, .slice none 0 0] 26)).drew)).mono ?_); rintro e v1 ⟨A20, c20, rfl, hs20, hb⟩; (try dsimp only at hs20); (try dsimp only); have LQ1_1 : Hid (Sl v1 A20 lo c20) := hs20; have Lp_1 : Hid (Sl v1 A14 lp c14) := Sl.below (Lp_0.out.alloc (.cells #[.bool false, .slice none 0 0, .bool false, .slice none 0 0] 26)) hb; have K1 : Hid (Cw v1 w14.heap.size np A14 lp.length c14) := Cw.keep (Cw.keep K0.out (blw1 _ (.cells #[.bool false, .slice none 0 0, .bool false, .slice none 0 0] 26))) hb; have Y1 : Hid (Below wy.heap.size wy v1) := below_mono (below_mono Y0.out (blw1 _ (.cells #[.bool false, .slice none 0 0, .bool false, .slice none 0 0] 26))) hb; have M1 : Hid (Cf v1 wy.heap.size false none 0 0 false none 0 0) := Cf.keep (Cf.fresh (w := wy.drew) (g := wy.heap.size) rfl false none 0 0 false none 0 0 26) hb; have F1 : Hid (Ff v1 wy.heap.size) := Ff.keep (Ff.fresh (w := wy.drew) (g := wy.heap.size) rfl _ 26) (Cf.fresh (w := wy.drew) (g := wy.heap.size) rfl false none 0 0 false none 0 0 26) hb; obtain ⟨m0_1, m1_1, m2_1, m3_1⟩ := M1.out; obtain ⟨f0_1, f1_1, f2_1, f3_1⟩ := F1.out; have hm : wy.heap.size < v1.heap.size := lt_of_cell (a := ⟨wy.heap.size, 0, none⟩) M1.out.1; have hmx : wy.heap.size ≤ wy.heap.size := Nat.le_refl _; have J1 : Hid (v1.cell? ⟨w14.heap.size, 0, none⟩ = some (.bool np) ∧ v1.cell? ⟨w14.heap.size, 1, none⟩ = some (.slice A14 lp.length c14)) := ⟨K1.out.1, K1.out.2⟩; have hlt1 : w14.heap.size < v1.heap.size := lt_of_cell (a := ⟨w14.heap.size, 0, none⟩) K1.out.1; clear hb hs20))
                | (go_at_call 31; first | ((with_reducible refine (hRed.out v1 _ _ _ _ (LQ1_1.out) (Lp_1.out)).mono ?_); rintro e v2 ⟨A21, c21, A22, c22, rfl, hs21, hs22, hb⟩; (try dsimp only at hs21); (try dsimp only at hs22); (try dsimp only); have LU1_2 : Hid (Sl v2 A21 lo c21) := hs21; have LU2_2 : Hid (Sl v2 A22 lp c22) := hs22; have K2 : Hid (Cw v2 w14.heap.size np A14 lp.length c14) := Cw.keep K1.out hb; have Y2 : Hid (Below wy.heap.size wy v2) := below_mono Y1.out hb; (try (have M2 := Lib.hid (M1.out.keep hb); have F2 := Lib.hid (Ff.keep F1.out M1.out hb); obtain ⟨m0_2, m1_2, m2_2, m3_2⟩ := M2.out; obtain ⟨f0_2, f1_2, f2_2, f3_2⟩ := F2.out)); have J2 : Hid (v2.cell? ⟨w14.heap.size, 0, none⟩ = some (.bool np) ∧ v2.cell? ⟨w14.heap.size, 1, none⟩ = some (.slice A14 lp.length c14)) := ⟨K2.out.1, K2.out.2⟩; have hlt2 : w14.heap.size < v2.heap.size := lt_of_cell (a := ⟨w14.heap.size, 0, none⟩) K2.out.1; clear hb hs21 hs22) | ((with_reducible refine (hRed.out (v1.alloc (.cells #[.bool false, .slice none 0 0, .bool false, .slice none 0 0] 26)) _ _ _ _ (LQ1_1.out.alloc (.cells #[.bool false, .slice none 0 0, .bool false, .slice none 0 0] 26)) (Lp_1.out.alloc (.cells #[.bool false, .slice none 0 0, .bool false, .slice none 0 0] 26))).mono ?_); rintro e v2 ⟨A21, c21, A22, c22, rfl, hs21, hs22, hb⟩; (try dsimp only at hs21); (try dsimp only at hs22); (try dsimp only); have LU1_2 : Hid (Sl v2 A21 lo c21) := hs21; have LU2_2 : Hid (Sl v2 A22 lp c22) := hs22; have K2 : Hid (Cw v2 w14.heap.size np A14 lp.length c14) := Cw.keep (Cw.keep K1.out (blw1 _ (.cells #[.bool false, .slice none 0 0, .bool false, .slice none 0 0] 26))) hb; have Y2 : Hid (Below wy.heap.size wy v2) := below_mono (below_mono Y1.out (blw1 _ (.cells #[.bool false, .slice none 0 0, .bool false, .slice none 0 0] 26))) hb; have M2 : Hid (Cf v2 v1.heap.size false none 0 0 false none 0 0) := Cf.keep (Cf.fresh (w := v1) (g := v1.heap.size) rfl false none 0 0 false none 0 0 26) hb; have F2 : Hid (Ff v2 v1.heap.size) := Ff.keep (Ff.fresh (w := v1) (g := v1.heap.size) rfl _ 26) (Cf.fresh (w := v1) (g := v1.heap.size) rfl false none 0 0 false none 0 0 26) hb; obtain ⟨m0_2, m1_2, m2_2, m3_2⟩ := M2.out; obtain ⟨f0_2, f1_2, f2_2, f3_2⟩ := F2.out; have hm : v1.heap.size < v2.heap.size := lt_of_cell (a := ⟨v1.heap.size, 0, none⟩) M2.out.1; have hmx : wy.heap.size ≤ v1.heap.size := Y1.out.size; have J2 : Hid (v2.cell? ⟨w14.heap.size, 0, none⟩ = some (.bool np) ∧ v2.cell? ⟨w14.heap.size, 1, none⟩ = some (.slice A14 lp.length c14)) := ⟨K2.out.1, K2.out.2⟩; have hlt2 : w14.heap.size < v2.heap.size := lt_of_cell (a := ⟨w14.heap.size, 0, none⟩) K2.out.1; clear hb hs21 hs22)))
            all_goals
              go_wp2_with fail
              go_meet
              first
                | with_reducible exact ⟨v2.heap.size, A21, c21, A22, c22, rfl, Y2.out.size, Cf.fresh rfl _ _ _ _ _ _ _ _ _, LU1_2.out.alloc _, LU2_2.out.alloc _, below_mono Y2.out (blw1 _ _)⟩
                | with_reducible exact ⟨v1.heap.size, A21, c21, A22, c22, rfl, hmx, Cf.newF M2.out, LU1_2.out.setF M2.out _ _ _ _, LU2_2.out.setF M2.out _ _ _ _, below_setF Y2.out hmx _ _ _ _⟩
                | with_reducible exact ⟨wy.heap.size, A21, c21, A22, c22, rfl, hmx, Cf.newF M2.out, LU1_2.out.setF M2.out _ _ _ _, LU2_2.out.setF M2.out _ _ _ _, below_setF Y2.out hmx _ _ _ _⟩
          case rest =>
            obtain ⟨gu, A21, c21, A22, c22, rfl, hge, hcm, hsmU1, hsmU2, hb⟩ := hcut
            replace Sa1 := kS Sa1 hb
            replace Sa2 := kS Sa2 hb
            replace Sd1 := kS Sd1 hb
            replace Sd2 := kS Sd2 hb
            replace Sp := kS Sp hb
            replace Ka := kF Ka hb
            replace Kd := kF Kd hb
            replace Kp := kW Kp hb
            replace B := kB B hb
            clear hb
            have Ku : Hid (Cf wc gu no A21 lo.length c21 np A22 lp.length c22) := hcm
            have SU1 : Hid (Sl wc A21 lo c21) := hsmU1
            have SU2 : Hid (Sl wc A22 lp c22) := hsmU2
            clear hcm hsmU1 hsmU2 hge
            generalize wc = wu at *
            replace hza := lF Ka
            replace hzd := lF Kd
            replace hzp := lW Kp
            have hzu := lF Ku
            clear Sp
            clear Kp
            obtain ⟨qu0, qu1, qu2, qu3⟩ := Ku.out
            go_upto_region 21 with fail
            clear qu0 qu1 qu2 qu3
            go_cut [20, 21] from 127 to 131 (fun s20 s21 wx => ∃ (gh : Nat) (A25 : Option Addr) (c25 : Nat) (A26 : Option Addr) (c26 : Nat), s20 = .pointer (some ⟨gh, 0, none⟩) ∧ s21 = .int .i64 0 ∧ wu.heap.size ≤ gh ∧ Cf wx gh ng A25 lg.length c25 nh A26 lh.length c26 ∧ Sl wx A25 lg c25 ∧ Sl wx A26 lh c26 ∧ Below wu.heap.size wu wx)
            case first =>
              have K0 : Hid (Cf wu.drew gu no A21 lo.length c21 np A22 lp.length c22) := Ku.out
              have LU1_0 : Hid (Sl wu.drew A21 lo c21) := Sl.drew SU1.out
              have LU2_0 : Hid (Sl wu.drew A22 lp c22) := Sl.drew SU2.out
              have Y0 : Hid (Below wu.heap.size wu wu.drew) := (Below.refl _ _).drew
              have J0 : Hid (wu.drew.cell? ⟨gu, 0, none⟩ = some (.bool no) ∧ wu.drew.cell? ⟨gu, 1, none⟩ = some (.slice A21 lo.length c21) ∧ wu.drew.cell? ⟨gu, 2, none⟩ = some (.bool np) ∧ wu.drew.cell? ⟨gu, 3, none⟩ = some (.slice A22 lp.length c22)) := ⟨K0.out.1, K0.out.2.1, K0.out.2.2.1, K0.out.2.2.2⟩
              have J0a : Hid ((wu.alloc (.cells #[.bool false, .slice none 0 0, .bool false, .slice none 0 0] 26)).drew.cell? ⟨gu, 0, none⟩ = some (.bool no) ∧ (wu.alloc (.cells #[.bool false, .slice none 0 0, .bool false, .slice none 0 0] 26)).drew.cell? ⟨gu, 1, none⟩ = some (.slice A21 lo.length c21) ∧ (wu.alloc (.cells #[.bool false, .slice none 0 0, .bool false, .slice none 0 0] 26)).drew.cell? ⟨gu, 2, none⟩ = some (.bool np) ∧ (wu.alloc (.cells #[.bool false, .slice none 0 0, .bool false, .slice none 0 0] 26)).drew.cell? ⟨gu, 3, none⟩ = some (.slice A22 lp.length c22)) := keep4 (blw1 wu.drew (.cells #[.bool false, .slice none 0 0, .bool false, .slice none 0 0] 26)) J0.out
              go_region_held3 (fun w' => w'.cell? ⟨gu, 0, none⟩ = some (.bool no) ∧ w'.cell? ⟨gu, 1, none⟩ = some (.slice A21 lo.length c21) ∧ w'.cell? ⟨gu, 2, none⟩ = some (.bool np) ∧ w'.cell? ⟨gu, 3, none⟩ = some (.slice A22 lp.length c22))
                (first | with_reducible exact J2.out | with_reducible exact J1.out | with_reducible exact J0.out | with_reducible exact J0a.out | with_reducible exact keep4 (blw1 _ _) J2.out | with_reducible exact keep4 (blw1 _ _) J1.out | with_reducible exact keep4 (blw1 _ _) J0.out | ((with_reducible refine farF4 J2.out ?_ _ _ _ _); omega))
                (first
                  | (go_at_call 33; first | ((with_reducible refine (hPart.out wu.drew).mono ?_); rintro e v1 ⟨A23, c23, A24, c24, rfl, hs23, hs24, hb⟩; (try dsimp only at hs23); (try dsimp only at hs24); (try dsimp only); have LV1_1 : Hid (Sl v1 A23 lo c23) := hs23; have LV2_1 : Hid (Sl v1 A24 l2 c24) := hs24; have LU1_1 : Hid (Sl v1 A21 lo c21) := Sl.below (LU1_0.out) hb; have LU2_1 : Hid (Sl v1 A22 lp c22) := Sl.below (LU2_0.out) hb; have K1 : Hid (Cf v1 gu no A21 lo.length c21 np A22 lp.length c22) := Cf.keep K0.out hb; have Y1 : Hid (Below wu.heap.size wu v1) := below_mono Y0.out hb; have J1 : Hid (v1.cell? ⟨gu, 0, none⟩ = some (.bool no) ∧ v1.cell? ⟨gu, 1, none⟩ = some (.slice A21 lo.length c21) ∧ v1.cell? ⟨gu, 2, none⟩ = some (.bool np) ∧ v1.cell? ⟨gu, 3, none⟩ = some (.slice A22 lp.length c22)) := ⟨K1.out.1, K1.out.2.1, K1.out.2.2.1, K1.out.2.2.2⟩; have hlt1 : gu < v1.heap.size := lt_of_cell (a := ⟨gu, 0, none⟩) K1.out.1; clear hb hs23 hs24) | ((with_reducible refine (hPart.out ((wu.alloc (.cells #[.bool false, .slice none 0 0, .bool false, .slice none 0 0] 26)).drew)).mono ?_); rintro e v1 ⟨A23, c23, A24, c24, rfl, hs23, hs24, hb⟩; (try dsimp only at hs23); (try dsimp only at hs24); (try dsimp only); have LV1_1 : Hid (Sl v1 A23 lo c23) := hs23; have LV2_1 : Hid (Sl v1 A24 l2 c24) := hs24; have LU1_1 : Hid (Sl v1 A21 lo c21) := Sl.below (LU1_0.out.alloc (.cells #[.bool false, .slice none 0 0, .bool false, .slice none 0 0] 26)) hb; have LU2_1 : Hid (Sl v1 A22 lp c22) := Sl.below (LU2_0.out.alloc (.cells #[.bool false, .slice none 0 0, .bool false, .slice none 0 0] 26)) hb; have K1 : Hid (Cf v1 gu no A21 lo.length c21 np A22 lp.length c22) := Cf.keep (Cf.keep K0.out (blw1 _ (.cells #[.bool false, .slice none 0 0, .bool false, .slice none 0 0] 26))) hb; have Y1 : Hid (Below wu.heap.size wu v1) := below_mono (below_mono Y0.out (blw1 _ (.cells #[.bool false, .slice none 0 0, .bool false, .slice none 0 0] 26))) hb; have M1 : Hid (Cf v1 wu.heap.size false none 0 0 false none 0 0) := Cf.keep (Cf.fresh (w := wu.drew) (g := wu.heap.size) rfl false none 0 0 false none 0 0 26) hb; have F1 : Hid (Ff v1 wu.heap.size) := Ff.keep (Ff.fresh (w := wu.drew) (g := wu.heap.size) rfl _ 26) (Cf.fresh (w := wu.drew) (g := wu.heap.size) rfl false none 0 0 false none 0 0 26) hb; obtain ⟨m0_1, m1_1, m2_1, m3_1⟩ := M1.out; obtain ⟨f0_1, f1_1, f2_1, f3_1⟩ := F1.out; have hm : wu.heap.size < v1.heap.size := lt_of_cell (a := ⟨wu.heap.size, 0, none⟩) M1.out.1; have hmx : wu.heap.size ≤ wu.heap.size := Nat.le_refl _; have J1 : Hid (v1.cell? ⟨gu, 0, none⟩ = some (.bool no) ∧ v1.cell? ⟨gu, 1, none⟩ = some (.slice A21 lo.length c21) ∧ v1.cell? ⟨gu, 2, none⟩ = some (.bool np) ∧ v1.cell? ⟨gu, 3, none⟩ = some (.slice A22 lp.length c22)) := ⟨K1.out.1, K1.out.2.1, K1.out.2.2.1, K1.out.2.2.2⟩; have hlt1 : gu < v1.heap.size := lt_of_cell (a := ⟨gu, 0, none⟩) K1.out.1; clear hb hs23 hs24))
                  | (go_at_call 32; first | ((with_reducible refine (hMul.out v1 _ _ _ _ _ _ _ _ (LU1_1.out) (LU2_1.out) (LV1_1.out) (LV2_1.out)).mono ?_); rintro e v2 ⟨A25, c25, A26, c26, rfl, hs25, hs26, hb⟩; (try dsimp only at hs25); (try dsimp only at hs26); (try dsimp only); have LH1_2 : Hid (Sl v2 A25 lg c25) := hs25; have LH2_2 : Hid (Sl v2 A26 lh c26) := hs26; have K2 : Hid (Cf v2 gu no A21 lo.length c21 np A22 lp.length c22) := Cf.keep K1.out hb; have Y2 : Hid (Below wu.heap.size wu v2) := below_mono Y1.out hb; (try (have M2 := Lib.hid (M1.out.keep hb); have F2 := Lib.hid (Ff.keep F1.out M1.out hb); obtain ⟨m0_2, m1_2, m2_2, m3_2⟩ := M2.out; obtain ⟨f0_2, f1_2, f2_2, f3_2⟩ := F2.out)); have J2 : Hid (v2.cell? ⟨gu, 0, none⟩ = some (.bool no) ∧ v2.cell? ⟨gu, 1, none⟩ = some (.slice A21 lo.length c21) ∧ v2.cell? ⟨gu, 2, none⟩ = some (.bool np) ∧ v2.cell? ⟨gu, 3, none⟩ = some (.slice A22 lp.length c22)) := ⟨K2.out.1, K2.out.2.1, K2.out.2.2.1, K2.out.2.2.2⟩; have hlt2 : gu < v2.heap.size := lt_of_cell (a := ⟨gu, 0, none⟩) K2.out.1; clear hb hs25 hs26) | ((with_reducible refine (hMul.out (v1.alloc (.cells #[.bool false, .slice none 0 0, .bool false, .slice none 0 0] 26)) _ _ _ _ _ _ _ _ (LU1_1.out.alloc (.cells #[.bool false, .slice none 0 0, .bool false, .slice none 0 0] 26)) (LU2_1.out.alloc (.cells #[.bool false, .slice none 0 0, .bool false, .slice none 0 0] 26)) (LV1_1.out.alloc (.cells #[.bool false, .slice none 0 0, .bool false, .slice none 0 0] 26)) (LV2_1.out.alloc (.cells #[.bool false, .slice none 0 0, .bool false, .slice none 0 0] 26))).mono ?_); rintro e v2 ⟨A25, c25, A26, c26, rfl, hs25, hs26, hb⟩; (try dsimp only at hs25); (try dsimp only at hs26); (try dsimp only); have LH1_2 : Hid (Sl v2 A25 lg c25) := hs25; have LH2_2 : Hid (Sl v2 A26 lh c26) := hs26; have K2 : Hid (Cf v2 gu no A21 lo.length c21 np A22 lp.length c22) := Cf.keep (Cf.keep K1.out (blw1 _ (.cells #[.bool false, .slice none 0 0, .bool false, .slice none 0 0] 26))) hb; have Y2 : Hid (Below wu.heap.size wu v2) := below_mono (below_mono Y1.out (blw1 _ (.cells #[.bool false, .slice none 0 0, .bool false, .slice none 0 0] 26))) hb; have M2 : Hid (Cf v2 v1.heap.size false none 0 0 false none 0 0) := Cf.keep (Cf.fresh (w := v1) (g := v1.heap.size) rfl false none 0 0 false none 0 0 26) hb; have F2 : Hid (Ff v2 v1.heap.size) := Ff.keep (Ff.fresh (w := v1) (g := v1.heap.size) rfl _ 26) (Cf.fresh (w := v1) (g := v1.heap.size) rfl false none 0 0 false none 0 0 26) hb; obtain ⟨m0_2, m1_2, m2_2, m3_2⟩ := M2.out; obtain ⟨f0_2, f1_2, f2_2, f3_2⟩ := F2.out; have hm : v1.heap.size < v2.heap.size := lt_of_cell (a := ⟨v1.heap.size, 0, none⟩) M2.out.1; have hmx : wu.heap.size ≤ v1.heap.size := Y1.out.size; have J2 : Hid (v2.cell? ⟨gu, 0, none⟩ = some (.bool no) ∧ v2.cell? ⟨gu, 1, none⟩ = some (.slice A21 lo.length c21) ∧ v2.cell? ⟨gu, 2, none⟩ = some (.bool np) ∧ v2.cell? ⟨gu, 3, none⟩ = some (.slice A22 lp.length c22)) := ⟨K2.out.1, K2.out.2.1, K2.out.2.2.1, K2.out.2.2.2⟩; have hlt2 : gu < v2.heap.size := lt_of_cell (a := ⟨gu, 0, none⟩) K2.out.1; clear hb hs25 hs26)))
              all_goals
                go_wp2_with fail
                go_meet
                first
                  | with_reducible exact ⟨v2.heap.size, A25, c25, A26, c26, rfl, rfl, Y2.out.size, Cf.fresh rfl _ _ _ _ _ _ _ _ _, LH1_2.out.alloc _, LH2_2.out.alloc _, below_mono Y2.out (blw1 _ _)⟩
                  | with_reducible exact ⟨v1.heap.size, A25, c25, A26, c26, rfl, rfl, hmx, Cf.newF M2.out, LH1_2.out.setF M2.out _ _ _ _, LH2_2.out.setF M2.out _ _ _ _, below_setF Y2.out hmx _ _ _ _⟩
                  | with_reducible exact ⟨wu.heap.size, A25, c25, A26, c26, rfl, rfl, hmx, Cf.newF M2.out, LH1_2.out.setF M2.out _ _ _ _, LH2_2.out.setF M2.out _ _ _ _, below_setF Y2.out hmx _ _ _ _⟩
            case rest =>
              obtain ⟨gh, A25, c25, A26, c26, rfl, rfl, hge, hcm, hsmH1, hsmH2, hb⟩ := hcut
              replace Sa1 := kS Sa1 hb
              replace Sa2 := kS Sa2 hb
              replace Sd1 := kS Sd1 hb
              replace Sd2 := kS Sd2 hb
              replace SU1 := kS SU1 hb
              replace SU2 := kS SU2 hb
              replace Ka := kF Ka hb
              replace Kd := kF Kd hb
              replace Ku := kF Ku hb
              replace B := kB B hb
              clear hb
              have Kh : Hid (Cf wc gh ng A25 lg.length c25 nh A26 lh.length c26) := hcm
              have SH1 : Hid (Sl wc A25 lg c25) := hsmH1
              have SH2 : Hid (Sl wc A26 lh c26) := hsmH2
              clear hcm hsmH1 hsmH2 hge
              generalize wc = wh at *
              replace hza := lF Ka
              replace hzd := lF Kd
              replace hzu := lF Ku
              have hzh := lF Kh
              clear SU1
              clear SU2
              clear Ku
              have Sh1 := SH1
              have Sh2 := SH2
              clear SH1 SH2
              obtain ⟨qd0, qd1, qd2, qd3⟩ := Kd.out
              obtain ⟨qh0, qh1, qh2, qh3⟩ := Kh.out
              go_wp2_with fail
              refine (rcmpF_any false nf ng nh _ _ _ _ le lf lg lh _ _ _ _ _ Sd1.out Sd2.out Sh1.out Sh2.out).mono ?_
              rw [C5.out]
              rintro e w15 ⟨rfl, hb⟩
              clear qd0 qd1 qd2 qd3 qh0 qh1 qh2 qh3
              replace Sa1 := kS Sa1 hb
              replace Sa2 := kS Sa2 hb
              replace Sd1 := kS Sd1 hb
              replace Sd2 := kS Sd2 hb
              replace Sh1 := kS Sh1 hb
              replace Sh2 := kS Sh2 hb
              replace Ka := kF Ka hb
              replace Kd := kF Kd hb
              replace Kh := kF Kh hb
              replace B := kB B hb
              clear hb
              replace hza := lF Ka
              replace hzd := lF Kd
              replace hzh := lF Kh
              have hr := b9
              go_wp2
              go_ret
              exact ⟨rfl, B.out⟩

theorem fracBack_walk (na nb : Bool) (Aa Ab : Option Addr) (la lb : List Nat) (ca cb : Nat) (k : Int) (h0 : 0 ≤ k) (h1 : k ≤ 255) (w : World) (hsa : Sl w Aa la ca) (hsb : Sl w Ab lb cb) :
    Calls Tryz.prog 5 #[.agg #[.bool na, .slice Aa la.length ca, .bool nb, .slice Ab lb.length cb], .int .u8 k] w fun e w' => e = .returned (.bool true) ∧ Below w.heap.size w w' := by
  obtain ⟨kd, rfl⟩ : ∃ kd : Nat, k = (kd : Int) := ⟨k.toNat, by omega⟩
  exact fracBack_walk0 na nb Aa Ab la lb ca cb kd (by omega) w hsa hsb

end Go.Proofs.YtmelbahbjdogdaaGreatDoor

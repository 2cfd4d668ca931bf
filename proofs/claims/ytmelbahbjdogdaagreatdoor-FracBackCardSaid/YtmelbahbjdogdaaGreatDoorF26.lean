/- Walk: alive of the laws of fractions (the chapter's examples). -/
import Derived.Test.YtmelbahbjdogdaaGreatDoorF21
import Derived.Test.YtmelbahbjdogdaaGreatDoorF23
import Derived.Test.YtmelbahbjdogdaaGreatDoorF25
import Derived.Test.YtmelbahbjdogdaaGreatDoorF9
namespace Go.Proofs.YtmelbahbjdogdaaGreatDoor
open Go.RowKit
attribute [local go_sem ↓] Go.wp_at_zero Go.wp_at_succ
theorem al_p2 (w : World) : Calls Tryz.prog 10 #[.string ⟨#[49, 46, 50, 53, 101, 49]⟩] w (FRes ((wOf 25, wOf 2), 0) w) := by
  have h := parse_dot_down [49, 46, 50, 53, 101, 49] (by decide) false [49, 46, 50, 53, 101, 49] [46, 50, 53, 101, 49] [] 49 (by decide) (by decide) (by decide) (by decide) (by decide) [50, 53, 101, 49] (by decide) (by decide) 50 [53] [101, 49] (by decide) (by decide) 1 (by decide) 1 (by decide) (by omega) w
  rw [show ofS (sgn false (dv ([49] ++ [50, 53]))) ((10 : Int) ^ 1) = ((wOf 25, wOf 2), 0) from of_low (by decide) (by decide) (by omega) (by decide) (by decide) (by decide)] at h
  exact h

theorem al_q2 (w : World) : Calls Tryz.prog 10 #[.string ⟨#[45, 50, 47, 52]⟩] w (FRes ((wOf (-1), wOf 2), 0) w) := by
  have h := parse_slash [45, 50, 47, 52] (by decide) true [50, 47, 52] [47, 52] [] 50 (by decide) (by decide) (by decide) (by decide) [52] (by decide) (by decide) 52 [] (by decide) (by decide) w
  rw [show ofS (sgn true (dv [50])) ((dv [52] : Nat) : Int) = ((wOf (-1), wOf 2), 0) from of_low (by decide) (by decide) (by omega) (by decide) (by decide) (by decide)] at h
  exact h

set_option maxRecDepth 100000 in
set_option maxHeartbeats 4000000 in
theorem alive_any (w : World) :
    Calls Tryz.prog 17 #[] w fun e w' => e = .returned (.bool true) ∧ Below w.heap.size w w' := by
  have eOf : Hid (ofS 6 (-4) = ((wOf (-3), wOf 2), 0)) := al_of
  have e12 : Hid ((ofS 1 2).1 = (wOf 1, wOf 2)) := congrArg Prod.fst (of_low (a := 1) (b := 2) (by omega) (by omega) (by omega) (by decide) (by decide) (by decide))
  have e13 : Hid ((ofS 1 3).1 = (wOf 1, wOf 3)) := congrArg Prod.fst (of_low (a := 1) (b := 3) (by omega) (by omega) (by omega) (by decide) (by decide) (by decide))
  have eAdd : Hid (bothF (wOf 1).1 (wOf 1).2 (wOf 2).1 (wOf 2).2 (wOf 1).1 (wOf 1).2 (wOf 3).1 (wOf 3).2 addV = ((wOf 5, wOf 6), 0)) := add_low
  have em3p2 : Hid ((ofS (-3) 2).1 = (wOf (-3), wOf 2)) := congrArg Prod.fst (of_low (a := -3) (b := 2) (by omega) (by omega) (by omega) (by decide) (by decide) (by decide))
  have ep5p2 : Hid ((ofS 5 2).1 = (wOf 5, wOf 2)) := congrArg Prod.fst (of_low (a := 5) (b := 2) (by omega) (by omega) (by omega) (by decide) (by decide) (by decide))
  have em7p2 : Hid ((ofS (-7) 2).1 = (wOf (-7), wOf 2)) := congrArg Prod.fst (of_low (a := -7) (b := 2) (by omega) (by omega) (by omega) (by decide) (by decide) (by decide))
  have ep2p3 : Hid ((ofS 2 3).1 = (wOf 2, wOf 3)) := congrArg Prod.fst (of_low (a := 2) (b := 3) (by omega) (by omega) (by omega) (by decide) (by decide) (by decide))
  have em1p1000 : Hid ((ofS (-1) 1000).1 = (wOf (-1), wOf 1000)) := congrArg Prod.fst (of_low (a := -1) (b := 1000) (by omega) (by omega) (by omega) (by decide) (by decide) (by decide))
  have ep5p6 : Hid ((ofS 5 6).1 = (wOf 5, wOf 6)) := congrArg Prod.fst (of_low (a := 5) (b := 6) (by omega) (by omega) (by omega) (by decide) (by decide) (by decide))
  have ep25p2 : Hid ((ofS 25 2).1 = (wOf 25, wOf 2)) := congrArg Prod.fst (of_low (a := 25) (b := 2) (by omega) (by omega) (by omega) (by decide) (by decide) (by decide))
  have em1p2 : Hid ((ofS (-1) 2).1 = (wOf (-1), wOf 2)) := congrArg Prod.fst (of_low (a := -1) (b := 2) (by omega) (by omega) (by omega) (by decide) (by decide) (by decide))
  have eFl : Hid (floorF (wOf (-3)).1 (wOf (-3)).2 (wOf 2).1 (wOf 2).2 = (wOf (-2), 0)) := floor_low (low (a := -3) (b := 2) (by omega) (by decide) (by decide) (by decide)) (by decide)
  have eR5 : Hid (froundS (wOf 5).1 (wOf 5).2 (wOf 2).1 (wOf 2).2 = (wOf 2, 0)) := round_low (low (a := 5) (b := 2) (by omega) (by decide) (by decide) (by decide)) (by decide)
  have eR7 : Hid (froundS (wOf (-7)).1 (wOf (-7)).2 (wOf 2).1 (wOf 2).2 = (wOf (-4), 0)) := round_low (low (a := -7) (b := 2) (by omega) (by decide) (by decide) (by decide)) (by decide)
  have eD : Hid (fdecS (wOf 2).1 (wOf 2).2 (wOf 3).1 (wOf 3).2 3 = ([48, 46, 54, 54, 55], 0)) := al_d
  have eE : Hid (fdecS (wOf (-1)).1 (wOf (-1)).2 (wOf 1000).1 (wOf 1000).2 2 = ([48, 46, 48, 48], 0)) := al_e
  have hpp : Hid (∀ W, Calls Tryz.prog 10 #[.string ⟨#[49, 46, 50, 53, 101, 49]⟩] W (FRes ((wOf 25, wOf 2), 0) W)) := al_p2
  have hpq : Hid (∀ W, Calls Tryz.prog 10 #[.string ⟨#[45, 50, 47, 52]⟩] W (FRes ((wOf (-1), wOf 2), 0) W)) := al_q2
  have hb1 : Hid (badF (wOf 2).1 (wOf 2).2 (wOf 3).1 (wOf 3).2 = false) := (low (a := 2) (b := 3) (by omega) (by decide) (by decide) (by decide)).good
  have hb2 : Hid (badF (wOf (-1)).1 (wOf (-1)).2 (wOf 1000).1 (wOf 1000).2 = false) := (low (a := -1) (b := 1000) (by omega) (by decide) (by decide) (by decide)).good
  have vm7 : VZ (wOf (-7)).1 (wOf (-7)).2 (-7) := vz_wOf (fit_small (by decide))
  have vm4 : VZ (wOf (-4)).1 (wOf (-4)).2 (-4) := vz_wOf (fit_small (by decide))
  have vm3 : VZ (wOf (-3)).1 (wOf (-3)).2 (-3) := vz_wOf (fit_small (by decide))
  have vm2 : VZ (wOf (-2)).1 (wOf (-2)).2 (-2) := vz_wOf (fit_small (by decide))
  have vm1 : VZ (wOf (-1)).1 (wOf (-1)).2 (-1) := vz_wOf (fit_small (by decide))
  have vp1 : VZ (wOf 1).1 (wOf 1).2 1 := vz_wOf (fit_small (by decide))
  have vp2 : VZ (wOf 2).1 (wOf 2).2 2 := vz_wOf (fit_small (by decide))
  have vp3 : VZ (wOf 3).1 (wOf 3).2 3 := vz_wOf (fit_small (by decide))
  have vp5 : VZ (wOf 5).1 (wOf 5).2 5 := vz_wOf (fit_small (by decide))
  have vp6 : VZ (wOf 6).1 (wOf 6).2 6 := vz_wOf (fit_small (by decide))
  have vp25 : VZ (wOf 25).1 (wOf 25).2 25 := vz_wOf (fit_small (by decide))
  have vp1000 : VZ (wOf 1000).1 (wOf 1000).2 1000 := vz_wOf (fit_small (by decide))
  have hfit : ∀ (a b : Int), 0 < b → b.natAbs ≤ 10 ^ 9 → fitZ (a.fmod b + a.fmod b) := fun a b hb h => by obtain ⟨d1, d2, -⟩ := dm_parts (x := a) hb; exact fit_small (by omega)
  have hfp5 : badF (wOf 5).1 (wOf 5).2 (wOf 2).1 (wOf 2).2 = false → fitZ ((zv (wOf 5).1 (wOf 5).2).fmod (zv (wOf 2).1 (wOf 2).2) + (zv (wOf 5).1 (wOf 5).2).fmod (zv (wOf 2).1 (wOf 2).2)) := fun _ => by rw [vp5.zv_eq, vp2.zv_eq]; exact hfit _ _ (by omega) (by decide)
  have hfm7 : badF (wOf (-7)).1 (wOf (-7)).2 (wOf 2).1 (wOf 2).2 = false → fitZ ((zv (wOf (-7)).1 (wOf (-7)).2).fmod (zv (wOf 2).1 (wOf 2).2) + (zv (wOf (-7)).1 (wOf (-7)).2).fmod (zv (wOf 2).1 (wOf 2).2)) := fun _ => by rw [vm7.zv_eq, vp2.zv_eq]; exact hfit _ _ (by omega) (by decide)
  have hlp2 : (wOf 2).2.length ≤ 1000 := Nat.le_trans (len_of_lt (k := 2) vp2 (by decide)) (by omega)
  have hlp3 : (wOf 3).2.length ≤ 1000 := Nat.le_trans (len_of_lt (k := 2) vp3 (by decide)) (by omega)
  have hlm1 : (wOf (-1)).2.length ≤ 1000 := Nat.le_trans (len_of_lt (k := 2) vm1 (by decide)) (by omega)
  have hlp1000 : (wOf 1000).2.length ≤ 1000 := Nat.le_trans (len_of_lt (k := 2) vp1000 (by decide)) (by omega)
  obtain ⟨⟨nm7, lm7⟩, hm7⟩ : ∃ p, p = wOf (-7) := ⟨_, rfl⟩
  obtain ⟨⟨nm4, lm4⟩, hm4⟩ : ∃ p, p = wOf (-4) := ⟨_, rfl⟩
  obtain ⟨⟨nm3, lm3⟩, hm3⟩ : ∃ p, p = wOf (-3) := ⟨_, rfl⟩
  obtain ⟨⟨nm2, lm2⟩, hm2⟩ : ∃ p, p = wOf (-2) := ⟨_, rfl⟩
  obtain ⟨⟨nm1, lm1⟩, hm1⟩ : ∃ p, p = wOf (-1) := ⟨_, rfl⟩
  obtain ⟨⟨np1, lp1⟩, hp1⟩ : ∃ p, p = wOf 1 := ⟨_, rfl⟩
  obtain ⟨⟨np2, lp2⟩, hp2⟩ : ∃ p, p = wOf 2 := ⟨_, rfl⟩
  obtain ⟨⟨np3, lp3⟩, hp3⟩ : ∃ p, p = wOf 3 := ⟨_, rfl⟩
  obtain ⟨⟨np5, lp5⟩, hp5⟩ : ∃ p, p = wOf 5 := ⟨_, rfl⟩
  obtain ⟨⟨np6, lp6⟩, hp6⟩ : ∃ p, p = wOf 6 := ⟨_, rfl⟩
  obtain ⟨⟨np25, lp25⟩, hp25⟩ : ∃ p, p = wOf 25 := ⟨_, rfl⟩
  obtain ⟨⟨np1000, lp1000⟩, hp1000⟩ : ∃ p, p = wOf 1000 := ⟨_, rfl⟩
  rw [← hm7] at em7p2 eR7 hfm7
  rw [← hm4] at eR7
  rw [← hm3] at eOf em3p2 eFl
  rw [← hm2] at eFl
  rw [← hm1] at em1p1000 em1p2 eE hpq hb2 hlm1
  rw [← hp1] at e12 e13 eAdd
  rw [← hp2] at eOf e12 eAdd em3p2 ep5p2 em7p2 ep2p3 ep25p2 em1p2 eFl eR5 eR7 eD hpp hpq hb1 hfp5 hfm7 hlp2
  rw [← hp3] at e13 eAdd ep2p3 eD hb1 hlp3
  rw [← hp5] at eAdd ep5p2 ep5p6 eR5 hfp5
  rw [← hp6] at eAdd ep5p6
  rw [← hp25] at ep25p2 hpp
  rw [← hp1000] at em1p1000 eE hb2 hlp1000
  have hw : wOf (-2) = (nm2, lm2) ∧ wOf 2 = (np2, lp2) ∧ wOf (-4) = (nm4, lm4) := ⟨hm2.symm, hp2.symm, hm4.symm⟩
  have Hw := Lib.hid hw
  have Hfp5 := Lib.hid hfp5
  have Hfm7 := Lib.hid hfm7
  have Hlp2 := Lib.hid hlp2
  have Hlp3 := Lib.hid hlp3
  have Hlm1 := Lib.hid hlm1
  have Hlp1000 := Lib.hid hlp1000
  clear hfit hw hfp5 hfm7 hlp2 hlp3 hlm1 hlp1000 vm7 hm7 vm4 hm4 vm3 hm3 vm2 hm2 vm1 hm1 vp1 hp1 vp2 hp2 vp3 hp3 vp5 hp5 vp6 hp6 vp25 hp25 vp1000 hp1000
  have B : Hid (Below w.heap.size w w) := Below.refl _ _
  dsimp only at *
  go_enter Tryz.func17, Tryz.ntmps17
  go_wp2_with fail
  refine (of_any 6 (-4) (by omega) (by omega) (by omega) (by omega) _).mono ?_
  rw [eOf.out]
  rintro e w1 ⟨A1, c1, B1, d1, rfl, hs1, ht1, hb⟩
  replace B := kB B hb
  clear hb
  (try dsimp only at hs1 ht1)
  (try dsimp only)
  have Sa1 : Hid (Sl w1 A1 lm3 c1) := hs1
  clear hs1
  have Sa2 : Hid (Sl w1 B1 lp2 d1) := ht1
  clear ht1
  go_wp2_with fail
  refine (part_any 1 2 (by omega) (by omega) (by omega) (by omega) _).mono ?_
  rw [e12.out]
  rintro e w2 ⟨A2, c2, B2, d2, rfl, hs2, ht2, hb⟩
  replace Sa1 := kS1 Sa1 hb
  replace Sa2 := kS1 Sa2 hb
  have Ka : Hid (Cf w2 w1.heap.size nm3 A1 lm3.length c1 np2 B1 lp2.length d1) := Cf.keep (Cf.fresh (by simp) _ _ _ _ _ _ _ _ _) hb
  replace B := kB1 B hb
  clear hb
  (try dsimp only at hs2 ht2)
  (try dsimp only)
  have Ss1 : Hid (Sl w2 A2 lp1 c2) := hs2
  clear hs2
  have Ss2 : Hid (Sl w2 B2 lp2 d2) := ht2
  clear ht2
  have hza := lF Ka
  go_wp2_with fail
  refine (part_any 1 3 (by omega) (by omega) (by omega) (by omega) _).mono ?_
  rw [e13.out]
  rintro e w3 ⟨A3, c3, B3, d3, rfl, hs3, ht3, hb⟩
  replace Sa1 := kS Sa1 hb
  replace Sa2 := kS Sa2 hb
  replace Ss1 := kS Ss1 hb
  replace Ss2 := kS Ss2 hb
  replace Ka := kF Ka hb
  replace B := kB B hb
  clear hb
  (try dsimp only at hs3 ht3)
  (try dsimp only)
  have St1 : Hid (Sl w3 A3 lp1 c3) := hs3
  clear hs3
  have St2 : Hid (Sl w3 B3 lp3 d3) := ht3
  clear ht3
  replace hza := lF Ka
  go_wp2_with fail
  refine (fadd_good np1 np2 np1 np3 _ _ _ _ lp1 lp2 lp1 lp3 _ _ _ _ (congrArg Prod.snd eAdd.out) _ Ss1.out Ss2.out St1.out St2.out).mono ?_
  rw [eAdd.out]
  rintro e w4 ⟨A4, c4, B4, d4, rfl, hs4, ht4, hb⟩
  replace Sa1 := kS Sa1 hb
  replace Sa2 := kS Sa2 hb
  replace Ss1 := kS Ss1 hb
  replace Ss2 := kS Ss2 hb
  replace St1 := kS St1 hb
  replace St2 := kS St2 hb
  replace Ka := kF Ka hb
  replace B := kB B hb
  clear hb
  (try dsimp only at hs4 ht4)
  (try dsimp only)
  have Sb1 : Hid (Sl w4 A4 lp5 c4) := hs4
  clear hs4
  have Sb2 : Hid (Sl w4 B4 lp6 d4) := ht4
  clear ht4
  replace hza := lF Ka
  have hkab := hza
  clear Ss1
  clear Ss2
  clear St1
  clear St2
  go_wp2_with fail
  refine (part_any (-3) 2 (by omega) (by omega) (by omega) (by omega) _).mono ?_
  rw [em3p2.out]
  rintro e w5 ⟨A5, c5, B5, d5, rfl, hs5, ht5, hb⟩
  replace Sa1 := kS1 Sa1 hb
  replace Sa2 := kS1 Sa2 hb
  replace Sb1 := kS1 Sb1 hb
  replace Sb2 := kS1 Sb2 hb
  replace Ka := kF1 Ka hb
  have Kb : Hid (Cf w5 w4.heap.size np5 A4 lp5.length c4 np6 B4 lp6.length d4) := Cf.keep (Cf.fresh (by simp) _ _ _ _ _ _ _ _ _) hb
  replace B := kB1 B hb
  clear hb
  (try dsimp only at hs5 ht5)
  (try dsimp only)
  have Ss1 : Hid (Sl w5 A5 lm3 c5) := hs5
  clear hs5
  have Ss2 : Hid (Sl w5 B5 lp2 d5) := ht5
  clear ht5
  replace hza := lF Ka
  have hzb := lF Kb
  go_wp2_with fail
  refine (ffloor_any nm3 np2 _ _ lm3 lp2 _ _ _ Ss1.out Ss2.out).mono ?_
  rw [eFl.out]
  rintro e w6 ⟨A6, c6, rfl, hs6, hb⟩
  replace Sa1 := kS Sa1 hb
  replace Sa2 := kS Sa2 hb
  replace Sb1 := kS Sb1 hb
  replace Sb2 := kS Sb2 hb
  replace Ss1 := kS Ss1 hb
  replace Ss2 := kS Ss2 hb
  replace Ka := kF Ka hb
  replace Kb := kF Kb hb
  replace B := kB B hb
  clear hb
  (try dsimp only at hs6)
  (try dsimp only)
  have Sc1 : Hid (Sl w6 A6 lm2 c6) := hs6
  clear hs6
  replace hza := lF Ka
  replace hzb := lF Kb
  have hkac := hza
  have hkbc := hzb
  clear Ss1
  clear Ss2
  go_wp2_with fail
  refine (part_any 5 2 (by omega) (by omega) (by omega) (by omega) _).mono ?_
  rw [ep5p2.out]
  rintro e w7 ⟨A7, c7, B7, d7, rfl, hs7, ht7, hb⟩
  replace Sa1 := kS1 Sa1 hb
  replace Sa2 := kS1 Sa2 hb
  replace Sb1 := kS1 Sb1 hb
  replace Sb2 := kS1 Sb2 hb
  replace Sc1 := kS1 Sc1 hb
  replace Ka := kF1 Ka hb
  replace Kb := kF1 Kb hb
  have Kc : Hid (Cw w7 w6.heap.size nm2 A6 lm2.length c6) := Cw.keep (Cw.fresh (by simp) _ _ _ _ _) hb
  replace B := kB1 B hb
  clear hb
  (try dsimp only at hs7 ht7)
  (try dsimp only)
  have Ss1 : Hid (Sl w7 A7 lp5 c7) := hs7
  clear hs7
  have Ss2 : Hid (Sl w7 B7 lp2 d7) := ht7
  clear ht7
  replace hza := lF Ka
  replace hzb := lF Kb
  have hzc := lW Kc
  go_wp2_with fail
  refine (fround_any np5 np2 _ _ lp5 lp2 _ _ Hfp5.out _ Ss1.out Ss2.out).mono ?_
  rw [eR5.out]
  rintro e w8 ⟨A8, c8, rfl, hs8, hb⟩
  replace Sa1 := kS Sa1 hb
  replace Sa2 := kS Sa2 hb
  replace Sb1 := kS Sb1 hb
  replace Sb2 := kS Sb2 hb
  replace Sc1 := kS Sc1 hb
  replace Ss1 := kS Ss1 hb
  replace Ss2 := kS Ss2 hb
  replace Ka := kF Ka hb
  replace Kb := kF Kb hb
  replace Kc := kW Kc hb
  replace B := kB B hb
  clear hb
  (try dsimp only at hs8)
  (try dsimp only)
  have Sd1 : Hid (Sl w8 A8 lp2 c8) := hs8
  clear hs8
  replace hza := lF Ka
  replace hzb := lF Kb
  replace hzc := lW Kc
  have hkad := hza
  have hkbd := hzb
  have hkcd := hzc
  clear Ss1
  clear Ss2
  go_wp2_with fail
  refine (part_any (-7) 2 (by omega) (by omega) (by omega) (by omega) _).mono ?_
  rw [em7p2.out]
  rintro e w9 ⟨A9, c9, B9, d9, rfl, hs9, ht9, hb⟩
  replace Sa1 := kS1 Sa1 hb
  replace Sa2 := kS1 Sa2 hb
  replace Sb1 := kS1 Sb1 hb
  replace Sb2 := kS1 Sb2 hb
  replace Sc1 := kS1 Sc1 hb
  replace Sd1 := kS1 Sd1 hb
  replace Ka := kF1 Ka hb
  replace Kb := kF1 Kb hb
  replace Kc := kW1 Kc hb
  have Kd : Hid (Cw w9 w8.heap.size np2 A8 lp2.length c8) := Cw.keep (Cw.fresh (by simp) _ _ _ _ _) hb
  replace B := kB1 B hb
  clear hb
  (try dsimp only at hs9 ht9)
  (try dsimp only)
  have Ss1 : Hid (Sl w9 A9 lm7 c9) := hs9
  clear hs9
  have Ss2 : Hid (Sl w9 B9 lp2 d9) := ht9
  clear ht9
  replace hza := lF Ka
  replace hzb := lF Kb
  replace hzc := lW Kc
  have hzd := lW Kd
  go_wp2_with fail
  refine (fround_any nm7 np2 _ _ lm7 lp2 _ _ Hfm7.out _ Ss1.out Ss2.out).mono ?_
  rw [eR7.out]
  rintro e w10 ⟨A10, c10, rfl, hs10, hb⟩
  replace Sa1 := kS Sa1 hb
  replace Sa2 := kS Sa2 hb
  replace Sb1 := kS Sb1 hb
  replace Sb2 := kS Sb2 hb
  replace Sc1 := kS Sc1 hb
  replace Sd1 := kS Sd1 hb
  replace Ss1 := kS Ss1 hb
  replace Ss2 := kS Ss2 hb
  replace Ka := kF Ka hb
  replace Kb := kF Kb hb
  replace Kc := kW Kc hb
  replace Kd := kW Kd hb
  replace B := kB B hb
  clear hb
  (try dsimp only at hs10)
  (try dsimp only)
  have Sk1 : Hid (Sl w10 A10 lm4 c10) := hs10
  clear hs10
  replace hza := lF Ka
  replace hzb := lF Kb
  replace hzc := lW Kc
  replace hzd := lW Kd
  have hkak := hza
  have hkbk := hzb
  have hkck := hzc
  have hkdk := hzd
  clear Ss1
  clear Ss2
  go_wp2_with fail
  refine (hpp.out _).mono ?_
  rintro e w11 ⟨A11, c11, B11, d11, rfl, hs11, ht11, hb⟩
  replace Sa1 := kS1 Sa1 hb
  replace Sa2 := kS1 Sa2 hb
  replace Sb1 := kS1 Sb1 hb
  replace Sb2 := kS1 Sb2 hb
  replace Sc1 := kS1 Sc1 hb
  replace Sd1 := kS1 Sd1 hb
  replace Sk1 := kS1 Sk1 hb
  replace Ka := kF1 Ka hb
  replace Kb := kF1 Kb hb
  replace Kc := kW1 Kc hb
  replace Kd := kW1 Kd hb
  have Kk : Hid (Cw w11 w10.heap.size nm4 A10 lm4.length c10) := Cw.keep (Cw.fresh (by simp) _ _ _ _ _) hb
  replace B := kB1 B hb
  clear hb
  (try dsimp only at hs11 ht11)
  (try dsimp only)
  have Sl1 : Hid (Sl w11 A11 lp25 c11) := hs11
  clear hs11
  have Sl2 : Hid (Sl w11 B11 lp2 d11) := ht11
  clear ht11
  replace hza := lF Ka
  replace hzb := lF Kb
  replace hzc := lW Kc
  replace hzd := lW Kd
  have hzk := lW Kk
  have hkal := hza
  have hkbl := hzb
  have hkcl := hzc
  have hkdl := hzd
  have hkkl := hzk
  go_wp2_with fail
  refine (hpq.out _).mono ?_
  rintro e w12 ⟨A12, c12, B12, d12, rfl, hs12, ht12, hb⟩
  replace Sa1 := kS1 Sa1 hb
  replace Sa2 := kS1 Sa2 hb
  replace Sb1 := kS1 Sb1 hb
  replace Sb2 := kS1 Sb2 hb
  replace Sc1 := kS1 Sc1 hb
  replace Sd1 := kS1 Sd1 hb
  replace Sk1 := kS1 Sk1 hb
  replace Sl1 := kS1 Sl1 hb
  replace Sl2 := kS1 Sl2 hb
  replace Ka := kF1 Ka hb
  replace Kb := kF1 Kb hb
  replace Kc := kW1 Kc hb
  replace Kd := kW1 Kd hb
  replace Kk := kW1 Kk hb
  have Kl : Hid (Cf w12 w11.heap.size np25 A11 lp25.length c11 np2 B11 lp2.length d11) := Cf.keep (Cf.fresh (by simp) _ _ _ _ _ _ _ _ _) hb
  replace B := kB1 B hb
  clear hb
  (try dsimp only at hs12 ht12)
  (try dsimp only)
  have Sm1 : Hid (Sl w12 A12 lm1 c12) := hs12
  clear hs12
  have Sm2 : Hid (Sl w12 B12 lp2 d12) := ht12
  clear ht12
  replace hza := lF Ka
  replace hzb := lF Kb
  replace hzc := lW Kc
  replace hzd := lW Kd
  replace hzk := lW Kk
  have hzl := lF Kl
  have hkam := hza
  have hkbm := hzb
  have hkcm := hzc
  have hkdm := hzd
  have hkkm := hzk
  have hklm := hzl
  go_wp2_with fail
  refine (part_any 2 3 (by omega) (by omega) (by omega) (by omega) _).mono ?_
  rw [ep2p3.out]
  rintro e w13 ⟨A13, c13, B13, d13, rfl, hs13, ht13, hb⟩
  replace Sa1 := kS1 Sa1 hb
  replace Sa2 := kS1 Sa2 hb
  replace Sb1 := kS1 Sb1 hb
  replace Sb2 := kS1 Sb2 hb
  replace Sc1 := kS1 Sc1 hb
  replace Sd1 := kS1 Sd1 hb
  replace Sk1 := kS1 Sk1 hb
  replace Sl1 := kS1 Sl1 hb
  replace Sl2 := kS1 Sl2 hb
  replace Sm1 := kS1 Sm1 hb
  replace Sm2 := kS1 Sm2 hb
  replace Ka := kF1 Ka hb
  replace Kb := kF1 Kb hb
  replace Kc := kW1 Kc hb
  replace Kd := kW1 Kd hb
  replace Kk := kW1 Kk hb
  replace Kl := kF1 Kl hb
  have Km : Hid (Cf w13 w12.heap.size nm1 A12 lm1.length c12 np2 B12 lp2.length d12) := Cf.keep (Cf.fresh (by simp) _ _ _ _ _ _ _ _ _) hb
  replace B := kB1 B hb
  clear hb
  (try dsimp only at hs13 ht13)
  (try dsimp only)
  have Ss1 : Hid (Sl w13 A13 lp2 c13) := hs13
  clear hs13
  have Ss2 : Hid (Sl w13 B13 lp3 d13) := ht13
  clear ht13
  replace hza := lF Ka
  replace hzb := lF Kb
  replace hzc := lW Kc
  replace hzd := lW Kd
  replace hzk := lW Kk
  replace hzl := lF Kl
  have hzm := lF Km
  go_wp2_with fail
  refine (fdec_ok np2 np3 _ _ lp2 lp3 _ _ 3 hb1.out (by omega) (by omega) Hlp2.out Hlp3.out _ Ss1.out Ss2.out).mono ?_
  rw [eD.out]
  rintro e w14 ⟨rfl, hb⟩
  replace Sa1 := kS Sa1 hb
  replace Sa2 := kS Sa2 hb
  replace Sb1 := kS Sb1 hb
  replace Sb2 := kS Sb2 hb
  replace Sc1 := kS Sc1 hb
  replace Sd1 := kS Sd1 hb
  replace Sk1 := kS Sk1 hb
  replace Sl1 := kS Sl1 hb
  replace Sl2 := kS Sl2 hb
  replace Sm1 := kS Sm1 hb
  replace Sm2 := kS Sm2 hb
  replace Ss1 := kS Ss1 hb
  replace Ss2 := kS Ss2 hb
  replace Ka := kF Ka hb
  replace Kb := kF Kb hb
  replace Kc := kW Kc hb
  replace Kd := kW Kd hb
  replace Kk := kW Kk hb
  replace Kl := kF Kl hb
  replace Km := kF Km hb
  replace B := kB B hb
  clear hb
  (try dsimp only)
  clear Ss1
  clear Ss2
  replace hza := lF Ka
  replace hzb := lF Kb
  replace hzc := lW Kc
  replace hzd := lW Kd
  replace hzk := lW Kk
  replace hzl := lF Kl
  replace hzm := lF Km
  go_wp2_with fail
  refine (part_any (-1) 1000 (by omega) (by omega) (by omega) (by omega) _).mono ?_
  rw [em1p1000.out]
  rintro e w15 ⟨A15, c15, B15, d15, rfl, hs15, ht15, hb⟩
  replace Sa1 := kS Sa1 hb
  replace Sa2 := kS Sa2 hb
  replace Sb1 := kS Sb1 hb
  replace Sb2 := kS Sb2 hb
  replace Sc1 := kS Sc1 hb
  replace Sd1 := kS Sd1 hb
  replace Sk1 := kS Sk1 hb
  replace Sl1 := kS Sl1 hb
  replace Sl2 := kS Sl2 hb
  replace Sm1 := kS Sm1 hb
  replace Sm2 := kS Sm2 hb
  replace Ka := kF Ka hb
  replace Kb := kF Kb hb
  replace Kc := kW Kc hb
  replace Kd := kW Kd hb
  replace Kk := kW Kk hb
  replace Kl := kF Kl hb
  replace Km := kF Km hb
  replace B := kB B hb
  clear hb
  (try dsimp only at hs15 ht15)
  (try dsimp only)
  have Ss1 : Hid (Sl w15 A15 lm1 c15) := hs15
  clear hs15
  have Ss2 : Hid (Sl w15 B15 lp1000 d15) := ht15
  clear ht15
  replace hza := lF Ka
  replace hzb := lF Kb
  replace hzc := lW Kc
  replace hzd := lW Kd
  replace hzk := lW Kk
  replace hzl := lF Kl
  replace hzm := lF Km
  go_wp2_with fail
  refine (fdec_ok nm1 np1000 _ _ lm1 lp1000 _ _ 2 hb2.out (by omega) (by omega) Hlm1.out Hlp1000.out _ Ss1.out Ss2.out).mono ?_
  rw [eE.out]
  rintro e w16 ⟨rfl, hb⟩
  replace Sa1 := kS Sa1 hb
  replace Sa2 := kS Sa2 hb
  replace Sb1 := kS Sb1 hb
  replace Sb2 := kS Sb2 hb
  replace Sc1 := kS Sc1 hb
  replace Sd1 := kS Sd1 hb
  replace Sk1 := kS Sk1 hb
  replace Sl1 := kS Sl1 hb
  replace Sl2 := kS Sl2 hb
  replace Sm1 := kS Sm1 hb
  replace Sm2 := kS Sm2 hb
  replace Ss1 := kS Ss1 hb
  replace Ss2 := kS Ss2 hb
  replace Ka := kF Ka hb
  replace Kb := kF Kb hb
  replace Kc := kW Kc hb
  replace Kd := kW Kd hb
  replace Kk := kW Kk hb
  replace Kl := kF Kl hb
  replace Km := kF Km hb
  replace B := kB B hb
  clear hb
  (try dsimp only)
  clear Ss1
  clear Ss2
  replace hza := lF Ka
  replace hzb := lF Kb
  replace hzc := lW Kc
  replace hzd := lW Kd
  replace hzk := lW Kk
  replace hzl := lF Kl
  replace hzm := lF Km
  obtain ⟨qa0, qa1, qa2, qa3⟩ := Ka.out
  go_wp2_with fail
  refine (lsame_true nm3 np2 _ _ lm3 lp2 _ _ (-3) 2 (by omega) (by omega) (by omega) (by omega) em3p2.out _ Sa1.out Sa2.out).mono ?_
  rintro e w17 ⟨rfl, hb⟩
  clear qa0 qa1 qa2 qa3
  replace Sa1 := kS Sa1 hb
  replace Sa2 := kS Sa2 hb
  replace Sb1 := kS Sb1 hb
  replace Sb2 := kS Sb2 hb
  replace Sc1 := kS Sc1 hb
  replace Sd1 := kS Sd1 hb
  replace Sk1 := kS Sk1 hb
  replace Sl1 := kS Sl1 hb
  replace Sl2 := kS Sl2 hb
  replace Sm1 := kS Sm1 hb
  replace Sm2 := kS Sm2 hb
  replace Ka := kF Ka hb
  replace Kb := kF Kb hb
  replace Kc := kW Kc hb
  replace Kd := kW Kd hb
  replace Kk := kW Kk hb
  replace Kl := kF Kl hb
  replace Km := kF Km hb
  replace B := kB B hb
  clear hb
  clear Sa1
  clear Sa2
  clear Ka
  replace hzb := lF Kb
  replace hzc := lW Kc
  replace hzd := lW Kd
  replace hzk := lW Kk
  replace hzl := lF Kl
  replace hzm := lF Km
  obtain ⟨qb0, qb1, qb2, qb3⟩ := Kb.out
  go_wp2_with fail
  refine (lsame_true np5 np6 _ _ lp5 lp6 _ _ 5 6 (by omega) (by omega) (by omega) (by omega) ep5p6.out _ Sb1.out Sb2.out).mono ?_
  rintro e w18 ⟨rfl, hb⟩
  clear qb0 qb1 qb2 qb3
  replace Sb1 := kS Sb1 hb
  replace Sb2 := kS Sb2 hb
  replace Sc1 := kS Sc1 hb
  replace Sd1 := kS Sd1 hb
  replace Sk1 := kS Sk1 hb
  replace Sl1 := kS Sl1 hb
  replace Sl2 := kS Sl2 hb
  replace Sm1 := kS Sm1 hb
  replace Sm2 := kS Sm2 hb
  replace Kb := kF Kb hb
  replace Kc := kW Kc hb
  replace Kd := kW Kd hb
  replace Kk := kW Kk hb
  replace Kl := kF Kl hb
  replace Km := kF Km hb
  replace B := kB B hb
  clear hb
  clear Sb1
  clear Sb2
  clear Kb
  replace hzc := lW Kc
  replace hzd := lW Kd
  replace hzk := lW Kk
  replace hzl := lF Kl
  replace hzm := lF Km
  obtain ⟨qc0, qc1⟩ := Kc.out
  go_wp2_with fail
  refine (whole_true nm2 _ lm2 _ (-2) (by omega) (by omega) Hw.out.1 _ Sc1.out).mono ?_
  rintro e w19 ⟨rfl, hb⟩
  clear qc0 qc1
  replace Sc1 := kS Sc1 hb
  replace Sd1 := kS Sd1 hb
  replace Sk1 := kS Sk1 hb
  replace Sl1 := kS Sl1 hb
  replace Sl2 := kS Sl2 hb
  replace Sm1 := kS Sm1 hb
  replace Sm2 := kS Sm2 hb
  replace Kc := kW Kc hb
  replace Kd := kW Kd hb
  replace Kk := kW Kk hb
  replace Kl := kF Kl hb
  replace Km := kF Km hb
  replace B := kB B hb
  clear hb
  clear Sc1
  clear Kc
  replace hzd := lW Kd
  replace hzk := lW Kk
  replace hzl := lF Kl
  replace hzm := lF Km
  obtain ⟨qd0, qd1⟩ := Kd.out
  go_wp2_with fail
  refine (whole_true np2 _ lp2 _ 2 (by omega) (by omega) Hw.out.2.1 _ Sd1.out).mono ?_
  rintro e w20 ⟨rfl, hb⟩
  clear qd0 qd1
  replace Sd1 := kS Sd1 hb
  replace Sk1 := kS Sk1 hb
  replace Sl1 := kS Sl1 hb
  replace Sl2 := kS Sl2 hb
  replace Sm1 := kS Sm1 hb
  replace Sm2 := kS Sm2 hb
  replace Kd := kW Kd hb
  replace Kk := kW Kk hb
  replace Kl := kF Kl hb
  replace Km := kF Km hb
  replace B := kB B hb
  clear hb
  clear Sd1
  clear Kd
  replace hzk := lW Kk
  replace hzl := lF Kl
  replace hzm := lF Km
  obtain ⟨qk0, qk1⟩ := Kk.out
  go_wp2_with fail
  refine (whole_true nm4 _ lm4 _ (-4) (by omega) (by omega) Hw.out.2.2 _ Sk1.out).mono ?_
  rintro e w21 ⟨rfl, hb⟩
  clear qk0 qk1
  replace Sk1 := kS Sk1 hb
  replace Sl1 := kS Sl1 hb
  replace Sl2 := kS Sl2 hb
  replace Sm1 := kS Sm1 hb
  replace Sm2 := kS Sm2 hb
  replace Kk := kW Kk hb
  replace Kl := kF Kl hb
  replace Km := kF Km hb
  replace B := kB B hb
  clear hb
  clear Sk1
  clear Kk
  replace hzl := lF Kl
  replace hzm := lF Km
  obtain ⟨ql0, ql1, ql2, ql3⟩ := Kl.out
  go_wp2_with fail
  refine (lsame_true np25 np2 _ _ lp25 lp2 _ _ 25 2 (by omega) (by omega) (by omega) (by omega) ep25p2.out _ Sl1.out Sl2.out).mono ?_
  rintro e w22 ⟨rfl, hb⟩
  clear ql0 ql1 ql2 ql3
  replace Sl1 := kS Sl1 hb
  replace Sl2 := kS Sl2 hb
  replace Sm1 := kS Sm1 hb
  replace Sm2 := kS Sm2 hb
  replace Kl := kF Kl hb
  replace Km := kF Km hb
  replace B := kB B hb
  clear hb
  clear Sl1
  clear Sl2
  clear Kl
  replace hzm := lF Km
  obtain ⟨qm0, qm1, qm2, qm3⟩ := Km.out
  go_wp2_with fail
  refine (lsame_true nm1 np2 _ _ lm1 lp2 _ _ (-1) 2 (by omega) (by omega) (by omega) (by omega) em1p2.out _ Sm1.out Sm2.out).mono ?_
  rintro e w23 ⟨rfl, hb⟩
  clear qm0 qm1 qm2 qm3
  replace Sm1 := kS Sm1 hb
  replace Sm2 := kS Sm2 hb
  replace Km := kF Km hb
  replace B := kB B hb
  clear hb
  clear Sm1
  clear Sm2
  clear Km
  go_wp2
  go_ret
  exact ⟨rfl, B.out⟩

end Go.Proofs.YtmelbahbjdogdaaGreatDoor

/- The walk of the law FracTexts. -/
import Derived.Test.YtmelbahbjdogdaaGreatDoorF21
import Derived.Test.YtmelbahbjdogdaaGreatDoorF23
import Derived.Test.YtmelbahbjdogdaaGreatDoorF31
import Derived.Test.YtmelbahbjdogdaaGreatDoorF34
import Derived.Test.YtmelbahbjdogdaaGreatDoorF15
namespace Go.Proofs.YtmelbahbjdogdaaGreatDoor
open Go.RowKit
attribute [local go_sem ↓] Go.wp_at_zero Go.wp_at_succ
set_option maxRecDepth 100000 in
set_option maxHeartbeats 4000000 in
theorem fracTexts_walk0 (na nb : Bool) (Aa Ab : Option Addr) (la lb : List Nat) (ca cb : Nat) (s : List UInt8) (k : Int) (w : World) (hsa : Sl w Aa la ca) (hsb : Sl w Ab lb cb) :
    Calls Tryz.prog 3 #[.agg #[.bool na, .slice Aa la.length ca, .bool nb, .slice Ab lb.length cb], .string ⟨s.toArray⟩, .int .i64 k] w fun e w' => e = .returned (.bool true) ∧ Below w.heap.size w w' := by
  have Sa1 := Lib.hid hsa
  have Sa2 := Lib.hid hsb
  have B : Hid (Below w.heap.size w w) := Below.refl _ _
  cases hgr : greatF la lb with
  | true =>
    have HG := Lib.hid hgr
    clear hgr hsa hsb
    go_enter Tryz.func3, Tryz.ntmps3
    go_wp2_with fail
    refine (fgreat_any na nb _ _ la lb _ _ _).mono ?_
    rw [HG.out]
    rintro e w1 ⟨rfl, hb⟩
    replace Sa1 := kS1 Sa1 hb
    replace Sa2 := kS1 Sa2 hb
    have Ka : Hid (Cf w1 w.heap.size na Aa la.length ca nb Ab lb.length cb) := Cf.keep (Cf.fresh (by simp) _ _ _ _ _ _ _ _ _) hb
    replace B := kB1 B hb
    clear hb
    have hza := lF Ka
    go_wp2
    go_ret
    exact ⟨rfl, B.out⟩
  | false =>
    have HG := Lib.hid hgr
    by_cases hsl : 300 < s.length
    · have t1 : decide (300 < s.length) = true := decide_eq_true hsl
      have t2 : decide ((300 : Int) < (s.length : Int)) = true := decide_eq_true (by omega)
      clear hgr hsa hsb hsl
      go_enter Tryz.func3, Tryz.ntmps3
      go_wp2_with fail
      refine (fgreat_any na nb _ _ la lb _ _ _).mono ?_
      rw [HG.out]
      rintro e w1 ⟨rfl, hb⟩
      replace Sa1 := kS1 Sa1 hb
      replace Sa2 := kS1 Sa2 hb
      have Ka : Hid (Cf w1 w.heap.size na Aa la.length ca nb Ab lb.length cb) := Cf.keep (Cf.fresh (by simp) _ _ _ _ _ _ _ _ _) hb
      replace B := kB1 B hb
      clear hb
      have hza := lF Ka
      go_wp2
      go_ret
      exact ⟨rfl, B.out⟩
    · have t1 : decide (300 < s.length) = false := decide_eq_false hsl
      have t2 : decide ((300 : Int) < (s.length : Int)) = false := decide_eq_false (by omega)
      have hs3 : s.length ≤ 3000 := by omega
      have hll : la.length ≤ 1000 ∧ lb.length ≤ 1000 := by
        unfold greatF at hgr
        simp only [Bool.or_eq_false_iff, decide_eq_false_iff_not] at hgr
        omega
      obtain ⟨hla, hlb⟩ := hll
      obtain ⟨⟨⟨⟨nx, lx⟩, ⟨ny, ly⟩⟩, kx⟩, hx⟩ : ∃ p, p = parF s := ⟨_, rfl⟩
      obtain ⟨⟨T, kt⟩, ht⟩ : ∃ p, p = ftextS na la nb lb := ⟨_, rfl⟩
      obtain ⟨⟨D, kd⟩, hd⟩ : ∃ p, p = fdecS na la nb lb k := ⟨_, rfl⟩
      have EX := Lib.hid hx.symm
      have ET := Lib.hid ht.symm
      have ED := Lib.hid hd.symm
      have ES : Hid ((sameB nx lx nx lx && sameB ny ly ny ly) = true) := by rw [Hid]; simp [sameB]
      clear hgr hsa hsb hsl hx ht hd
      go_enter Tryz.func3, Tryz.ntmps3
      go_wp2_with fail
      refine (fgreat_any na nb _ _ la lb _ _ _).mono ?_
      rw [HG.out]
      rintro e w1 ⟨rfl, hb⟩
      replace Sa1 := kS1 Sa1 hb
      replace Sa2 := kS1 Sa2 hb
      have Ka : Hid (Cf w1 w.heap.size na Aa la.length ca nb Ab lb.length cb) := Cf.keep (Cf.fresh (by simp) _ _ _ _ _ _ _ _ _) hb
      replace B := kB1 B hb
      clear hb
      have hza := lF Ka
      obtain ⟨qa0, qa1, qa2, qa3⟩ := Ka.out
      go_wp2_with fail
      refine (fparse_any s hs3 _).mono ?_
      rw [EX.out]
      rintro e w2 ⟨A2, c2, B2, d2, rfl, hs2, ht2, hb⟩
      clear qa0 qa1 qa2 qa3
      replace Sa1 := kS Sa1 hb
      replace Sa2 := kS Sa2 hb
      replace Ka := kF Ka hb
      replace B := kB B hb
      clear hb
      (try dsimp only at hs2 ht2)
      (try dsimp only)
      have Sx1 : Hid (Sl w2 A2 lx c2) := hs2
      clear hs2
      have Sx2 : Hid (Sl w2 B2 ly d2) := ht2
      clear ht2
      replace hza := lF Ka
      have hkax := hza
      go_wp2_with fail
      refine (rfparse_any s hs3 _).mono ?_
      rw [EX.out]
      rintro e w3 ⟨A3, c3, B3, d3, rfl, hs3, ht3, hb⟩
      replace Sa1 := kS1 Sa1 hb
      replace Sa2 := kS1 Sa2 hb
      replace Sx1 := kS1 Sx1 hb
      replace Sx2 := kS1 Sx2 hb
      replace Ka := kF1 Ka hb
      have Kx : Hid (Cf w3 w2.heap.size nx A2 lx.length c2 ny B2 ly.length d2) := Cf.keep (Cf.fresh (by simp) _ _ _ _ _ _ _ _ _) hb
      replace B := kB1 B hb
      clear hb
      (try dsimp only at hs3 ht3)
      (try dsimp only)
      have Sy1 : Hid (Sl w3 A3 lx c3) := hs3
      clear hs3
      have Sy2 : Hid (Sl w3 B3 ly d3) := ht3
      clear ht3
      replace hza := lF Ka
      have hzx := lF Kx
      have hkay := hza
      have hkxy := hzx
      obtain ⟨qa0, qa1, qa2, qa3⟩ := Ka.out
      go_wp2_with fail
      refine (ftext_any na nb _ _ la lb _ _ _ (Sa1.out.alloc _) (Sa2.out.alloc _)).mono ?_
      rw [ET.out]
      rintro e w4 ⟨rfl, hb⟩
      clear qa0 qa1 qa2 qa3
      replace Sa1 := kS1 Sa1 hb
      replace Sa2 := kS1 Sa2 hb
      replace Sx1 := kS1 Sx1 hb
      replace Sx2 := kS1 Sx2 hb
      replace Sy1 := kS1 Sy1 hb
      replace Sy2 := kS1 Sy2 hb
      replace Ka := kF1 Ka hb
      replace Kx := kF1 Kx hb
      have Ky : Hid (Cf w4 w3.heap.size nx A3 lx.length c3 ny B3 ly.length d3) := Cf.keep (Cf.fresh (by simp) _ _ _ _ _ _ _ _ _) hb
      replace B := kB1 B hb
      clear hb
      replace hza := lF Ka
      replace hzx := lF Kx
      have hzy := lF Ky
      (try dsimp only)
      obtain ⟨qa0, qa1, qa2, qa3⟩ := Ka.out
      go_wp2_with fail
      refine (rtextF_any na nb _ _ la lb _ _ _ Sa1.out Sa2.out).mono ?_
      rw [ET.out]
      rintro e w5 ⟨rfl, hb⟩
      clear qa0 qa1 qa2 qa3
      replace Sa1 := kS Sa1 hb
      replace Sa2 := kS Sa2 hb
      replace Sx1 := kS Sx1 hb
      replace Sx2 := kS Sx2 hb
      replace Sy1 := kS Sy1 hb
      replace Sy2 := kS Sy2 hb
      replace Ka := kF Ka hb
      replace Kx := kF Kx hb
      replace Ky := kF Ky hb
      replace B := kB B hb
      clear hb
      replace hza := lF Ka
      replace hzx := lF Kx
      replace hzy := lF Ky
      (try dsimp only)
      obtain ⟨qa0, qa1, qa2, qa3⟩ := Ka.out
      go_wp2_with fail
      refine (fdec_any na nb _ _ la lb _ _ k hla hlb _ Sa1.out Sa2.out).mono ?_
      rw [ED.out]
      rintro e w6 ⟨rfl, hb⟩
      clear qa0 qa1 qa2 qa3
      replace Sa1 := kS Sa1 hb
      replace Sa2 := kS Sa2 hb
      replace Sx1 := kS Sx1 hb
      replace Sx2 := kS Sx2 hb
      replace Sy1 := kS Sy1 hb
      replace Sy2 := kS Sy2 hb
      replace Ka := kF Ka hb
      replace Kx := kF Kx hb
      replace Ky := kF Ky hb
      replace B := kB B hb
      clear hb
      replace hza := lF Ka
      replace hzx := lF Kx
      replace hzy := lF Ky
      (try dsimp only)
      obtain ⟨qa0, qa1, qa2, qa3⟩ := Ka.out
      go_wp2_with fail
      refine (rfdec_any na nb _ _ la lb _ _ k hla _ Sa1.out Sa2.out).mono ?_
      rw [ED.out]
      rintro e w7 ⟨rfl, hb⟩
      clear qa0 qa1 qa2 qa3
      replace Sa1 := kS Sa1 hb
      replace Sa2 := kS Sa2 hb
      replace Sx1 := kS Sx1 hb
      replace Sx2 := kS Sx2 hb
      replace Sy1 := kS Sy1 hb
      replace Sy2 := kS Sy2 hb
      replace Ka := kF Ka hb
      replace Kx := kF Kx hb
      replace Ky := kF Ky hb
      replace B := kB B hb
      clear hb
      replace hza := lF Ka
      replace hzx := lF Kx
      replace hzy := lF Ky
      (try dsimp only)
      obtain ⟨qx0, qx1, qx2, qx3⟩ := Kx.out
      obtain ⟨qy0, qy1, qy2, qy3⟩ := Ky.out
      go_wp2_with fail
      refine (fsameF_any nx ny nx ny _ _ _ _ lx ly lx ly _ _ _ _ _ Sx1.out Sx2.out Sy1.out Sy2.out).mono ?_
      rw [ES.out]
      rintro e w8 ⟨rfl, hb⟩
      clear qx0 qx1 qx2 qx3 qy0 qy1 qy2 qy3
      replace Sa1 := kS Sa1 hb
      replace Sa2 := kS Sa2 hb
      replace Sx1 := kS Sx1 hb
      replace Sx2 := kS Sx2 hb
      replace Sy1 := kS Sy1 hb
      replace Sy2 := kS Sy2 hb
      replace Ka := kF Ka hb
      replace Kx := kF Kx hb
      replace Ky := kF Ky hb
      replace B := kB B hb
      clear hb
      replace hza := lF Ka
      replace hzx := lF Kx
      replace hzy := lF Ky
      go_wp2
      go_ret
      exact ⟨rfl, B.out⟩

theorem fracTexts_walk (na nb : Bool) (Aa Ab : Option Addr) (la lb : List Nat) (ca cb : Nat) (s : ByteArray) (k : Int) (_h0 : -9223372036854775808 ≤ k) (_h1 : k ≤ 9223372036854775807) (w : World) (hsa : Sl w Aa la ca) (hsb : Sl w Ab lb cb) :
    Calls Tryz.prog 3 #[.agg #[.bool na, .slice Aa la.length ca, .bool nb, .slice Ab lb.length cb], .string s, .int .i64 k] w fun e w' => e = .returned (.bool true) ∧ Below w.heap.size w w' := by
  have h : s = ⟨s.data.toList.toArray⟩ := by apply ByteArray.ext; simp
  rw [h]
  exact fracTexts_walk0 na nb Aa Ab la lb ca cb s.data.toList k w hsa hsb

end Go.Proofs.YtmelbahbjdogdaaGreatDoor

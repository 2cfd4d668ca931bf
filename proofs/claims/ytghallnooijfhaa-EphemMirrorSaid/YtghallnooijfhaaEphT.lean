import Derived.Test.YtghallnooijfhaaEphS
import Derived.Deep.CutRange
import Derived.Deep.RegionHeld
namespace Go.Proofs.Ytghallnooijfhaa
open Go.RowKit
attribute [local go_sem ↓] Go.wp_at_zero Go.wp_at_succ
theorem manyS_l {s : SG} (h : ∀ j, j < 3 → (s.l j).length ≤ 16) : manyS s = false := by
  have a := h 0 (by omega)
  have b := h 1 (by omega)
  have c := h 2 (by omega)
  unfold SG.l at a b c
  simp at a b c
  unfold manyS
  simp; omega

theorem manyS_bad {s : SG} {j : Nat} (h : 16 < (s.l j).length) : manyS s = true := by
  unfold SG.l at h
  unfold manyS
  simp only [Bool.or_eq_true, decide_eq_true_eq]
  split at h
  · omega
  · split at h <;> omega

theorem goodB_iff {b : BG} : goodB b = true ↔ GoodB b := by unfold goodB; simp

theorem GoodK.zero (bs : List BG) : GoodK bs 0 := fun j hj h => by omega

/-- None of the first k bodies has the name of this one. -/
theorem seen_none {bs : List BG} {k : Nat} {s : List UInt8} (h : ∀ j (hj : j < bs.length), j < k → (bs[j]'hj).nm ≠ s) : seenB bs k s = false := by
  unfold seenB
  rw [List.any_eq_false]
  intro b hb
  obtain ⟨j, hj, rfl⟩ := List.mem_take_iff_getElem.1 hb
  have := h j (by omega) (by omega)
  simpa using this

theorem seen_some {bs : List BG} {j k : Nat} {s : List UInt8} (hj : j < bs.length) (hk : j < k) (h : (bs[j]'hj).nm = s) : seenB bs k s = true := by
  unfold seenB
  rw [List.any_eq_true]
  exact ⟨_, List.mem_take_iff_getElem.2 ⟨j, by omega, rfl⟩, by simpa using h⟩

set_option maxRecDepth 100000 in
set_option maxHeartbeats 8000000 in
theorem recheck_any (bs : List BG) (A : Option Addr) (c B : Nat) (w : World) (hs : SlB w B A bs c) :
    Calls Try.prog 7 #[.agg #[.slice A bs.length c]] w fun e w' => e = .returned (.int .i64 (chkE bs)) ∧ Below w.heap.size w w' := by
  have hm := hs.len
  have S := Lib.hid hs
  have B0 : Hid (Below w.heap.size w (w.alloc (.cells #[.slice A bs.length c] 24))) := blw1 _ _
  have K0 : Hid (BlkV (w.alloc (.cells #[.slice A bs.length c] 24)) w.heap.size 24 #[.slice A bs.length c]) := BlkV.fresh rfl _ _
  clear hs
  go_enter Try.func7, Try.ntmps7
  go_upto_region 1 with fail
  generalize hw0 : w.alloc (.cells #[.slice A bs.length c] 24) = w0 at *
  clear hw0
  have k0 := K0.out.at_ 0 rfl
  have hlk := K0.out.lt
  have SW := Lib.hid (fun W (h : Below w0.heap.size w0 W) => S.out.below (below_mono B0.out h))
  clear S
  by_cases hbig : 12 < bs.length
  · have t1 : decide ((12 : Int) < (bs.length : Int)) = true := decide_eq_true (by omega)
    have E := Lib.hid (chkE_big hbig)
    go_wp2
    go_ret
    exact ⟨by rw [E.out]; rfl, B0.out⟩
  · have t1 : decide ((12 : Int) < (bs.length : Int)) = false := decide_eq_false (by omega)
    go_wp2
    go_loopw [3] (fun s3 wr => ∃ k : Nat, k ≤ bs.length ∧ s3 = .int .i64 k ∧ (∀ b ∈ bs.take k, manyB b = false) ∧ wr = w0) (fun v _ => bs.length - (intOf v).toNat)
    case atStart => exact ⟨0, Nat.zero_le _, rfl, by simp, rfl⟩
    case round =>
      obtain ⟨k, hk, rfl, hall, hw⟩ := hrel
      replace hw := hw.symm
      subst hw
      have ALL := Lib.hid hall
      clear hall
      by_cases hlt : k < bs.length
      · have tk : decide ((k : Int) < (bs.length : Int)) = true := decide_eq_true (by omega)
        obtain ⟨b, o, rfl, -, q0, q1, q2, q3, hok⟩ := (SW.out _ (Below.refl _ _)).at_ hlt
        have OK := Lib.hid hok
        have hst : Hid (bs[k]'hlt ∈ bs) := List.getElem_mem hlt
        have HG : Hid (manyB (bs[k]'hlt) = false → ∀ f ∈ bs.take (k + 1), manyB f = false) := fun h => mem_take_snoc hlt ALL.out h
        have hml := hok.sl.len
        clear hok
        generalize bs[k]'hlt = y at *
        obtain ⟨yA, hyA⟩ : ∃ a, y.A = a := ⟨_, rfl⟩
        rw [hyA] at q3
        have SSW : Hid (SlS w0 B yA y.ss y.c) := by rw [← hyA]; exact OK.out.sl
        clear hyA OK
        by_cases h100 : 100 < y.ss.length
        · have t2 : decide ((100 : Int) < (y.ss.length : Int)) = true := decide_eq_true (by omega)
          have E := Lib.hid (chkE_many hst.out (many_true1 h100))
          go_wp2
          go_ret
          exact ⟨by rw [E.out]; rfl, B0.out⟩
        · have t2 : decide ((100 : Int) < (y.ss.length : Int)) = false := decide_eq_false (by omega)
          go_wp2
          go_loopw [4] (fun s4 wv => ∃ j : Nat, j ≤ y.ss.length ∧ s4 = .int .i64 j ∧ (∀ s ∈ y.ss.take j, manyS s = false) ∧ wv = w0) (fun v _ => y.ss.length - (intOf v).toNat)
          case atStart => exact ⟨0, Nat.zero_le _, rfl, by simp, rfl⟩
          case round =>
            obtain ⟨j, hj, rfl, hall, hw⟩ := hrel
            replace hw := hw.symm
            subst hw
            have ALL2 := Lib.hid hall
            clear hall
            by_cases hjl : j < y.ss.length
            · have tj : decide ((j : Int) < (y.ss.length : Int)) = true := decide_eq_true (by omega)
              have hst2 : Hid (y.ss[j]'hjl ∈ y.ss) := List.getElem_mem hjl
              have HG2 : Hid (manyS (y.ss[j]'hjl) = false → ∀ f ∈ y.ss.take (j + 1), manyS f = false) := fun h => mem_take_snoc hjl ALL2.out h
              have hlen2 := fun i => (SSW.out.sli hjl i).len
              obtain ⟨b2, o2, rfl, -, pC⟩ := SSW.out.atC hjl
              have PC := Lib.hid pC
              clear pC
              generalize y.ss[j]'hjl = s at *
              have HL2 := Lib.hid hlen2
              clear hlen2
              go_wp2
              go_loopw [5] (fun s5 wv => ∃ i : Nat, i ≤ 3 ∧ s5 = .int .i64 i ∧ (∀ n, n < i → (s.l n).length ≤ 16) ∧ wv = w0) (fun v _ => 3 - (intOf v).toNat)
              case atStart => exact ⟨0, by omega, rfl, by omega, rfl⟩
              case round =>
                obtain ⟨i, hi, rfl, hall, hw⟩ := hrel
                replace hw := hw.symm
                subst hw
                have ALL3 := Lib.hid hall
                clear hall
                by_cases hi3 : i < 3
                · have ti : decide ((i : Int) < 3) = true := decide_eq_true (by omega)
                  have pc := PC.out i hi3
                  have hsl := HL2.out i
                  have NX : Hid ((s.l i).length ≤ 16 → ∀ n, n < i + 1 → (s.l n).length ≤ 16) := fun h => below3 ALL3.out h
                  have NB : Hid (16 < (s.l i).length → chkE bs = 4) := fun h => chkE_many hst.out (many_true2 hst2.out (manyS_bad h))
                  generalize s.l i = l at *
                  by_cases h16 : 16 < l.length
                  · have t3 : decide ((16 : Int) < (l.length : Int)) = true := decide_eq_true (by omega)
                    have E := Lib.hid (NB.out h16)
                    go_wp2
                    go_ret
                    exact ⟨by rw [E.out]; rfl, B0.out⟩
                  · have t3 : decide ((16 : Int) < (l.length : Int)) = false := decide_eq_false (by omega)
                    have E := Lib.hid (NX.out (by omega))
                    go_wp2
                    go_roundw
                    case rel => exact ⟨i + 1, by omega, by go_num, E.out, (by first | rfl | trivial)⟩
                    case measure => simp [intOf]; omega
                · obtain rfl : i = 3 := by omega
                  have ti : decide (((3 : Nat) : Int) < 3) = false := rfl
                  have E := Lib.hid (HG2.out (manyS_l ALL3.out))
                  go_wp2
                  go_roundw
                  case rel => exact ⟨j + 1, by omega, by go_num, E.out, (by first | rfl | trivial)⟩
                  case measure => simp [intOf]; omega
            · obtain rfl : j = y.ss.length := by omega
              have tj : decide ((y.ss.length : Int) < (y.ss.length : Int)) = false := decide_eq_false (by omega)
              have E := Lib.hid (HG.out (many_false (by omega) (by have := ALL2.out; rwa [List.take_length] at this)))
              go_wp2
              go_roundw
              case rel => exact ⟨k + 1, by omega, by go_num, E.out, (by first | rfl | trivial)⟩
              case measure => simp [intOf]; omega
      · obtain rfl : k = bs.length := by omega
        have tk : decide ((bs.length : Int) < (bs.length : Int)) = false := decide_eq_false (by omega)
        have FEW : Hid (∀ b ∈ bs, manyB b = false) := by have := ALL.out; rwa [List.take_length] at this
        clear ALL
        go_wp2
        clear tk
        go_loopw [6] (fun s6 wv => ∃ k : Nat, k ≤ bs.length ∧ s6 = .int .i64 k ∧ GoodK bs k ∧ Below w0.heap.size w0 wv) (fun v _ => bs.length - (intOf v).toNat)
        case atStart => exact ⟨0, Nat.zero_le _, rfl, GoodK.zero _, Below.refl _ _⟩
        case round =>
          generalize wr = wv at *
          obtain ⟨k, hk, rfl, hall, hbw⟩ := hrel
          have ALL := Lib.hid hall
          have HB := Lib.hid hbw
          have K1 := Lib.hid (K0.out.keep hbw)
          clear hall hbw k0
          have k0 := K1.out.at_ 0 rfl
          by_cases hlt : k < bs.length
          · have tk : decide ((k : Int) < (bs.length : Int)) = true := decide_eq_true (by omega)
            have S2 := Lib.hid (SW.out _ HB.out)
            obtain ⟨b, o, rfl, -, q0, q1, q2, q3, hok⟩ := S2.out.at_ hlt
            have CB := Lib.hid (rbody_any (bs[k]'hlt) B wv hok)
            have NG : Hid (¬ GoodB (bs[k]'hlt) → chkE bs = 8) := fun h => chkE_bad (by omega) FEW.out (not_good hlt h)
            have NS : Hid (∀ j (hj : j < bs.length), j < k → (bs[j]'hj).nm = (bs[k]'hlt).nm → chkE bs = 8) := fun j hj hjk h => chkE_bad (by omega) FEW.out (not_new hlt (seen_some hj hjk h))
            have NX : Hid (GoodB (bs[k]'hlt) → (∀ j (hj : j < bs.length), j < k → (bs[j]'hj).nm ≠ (bs[k]'hlt).nm) → GoodK bs (k + 1)) := fun h1 h2 => ALL.out.step hlt h1 (seen_none h2)
            have hnl := hok.nl
            clear hok S2
            generalize hy : bs[k]'hlt = y at *
            have HY := Lib.hid hy
            clear hy
            cases hg : goodB y with
            | false =>
              have E := Lib.hid (NG.out (fun h => by rw [goodB_t h] at hg; cases hg))
              rw [hg] at CB
              clear hg
              go_wp2_with fail
              refine CB.out.mono ?_
              rintro e w2 ⟨rfl, hb⟩
              have HB2 := Lib.hid (below_mono HB.out hb)
              clear hb
              go_wp2
              go_ret
              exact ⟨by rw [E.out]; rfl, below_mono B0.out HB2.out⟩
            | true =>
              have GY := Lib.hid (goodB_iff.1 hg)
              rw [hg] at CB
              clear hg
              go_wp2_with fail
              refine CB.out.mono ?_
              rintro e w2 ⟨rfl, hb⟩
              have HB2 := Lib.hid (below_mono HB.out hb)
              have K2 := Lib.hid (K1.out.keep hb)
              replace q0 := kept_cell hb q0
              clear hb CB q1 q2 q3 k0
              have k0 := K2.out.at_ 0 rfl
              go_wp2
              go_loopw [7] (fun s7 wz => ∃ j : Nat, j ≤ k ∧ s7 = .int .i64 j ∧ (∀ i (hi : i < bs.length), i < j → (bs[i]'hi).nm ≠ y.nm) ∧ Below w2.heap.size w2 wz) (fun v _ => k - (intOf v).toNat)
              case atStart => exact ⟨0, Nat.zero_le _, rfl, fun i hi h => by omega, Below.refl _ _⟩
              case round =>
                generalize wr = wz at *
                obtain ⟨j, hj, rfl, hall2, hbz⟩ := hrel
                have ALL2 := Lib.hid hall2
                have HZ := Lib.hid hbz
                have K3 := Lib.hid (K2.out.keep hbz)
                replace q0 := kept_cell hbz q0
                clear hall2 hbz k0
                have k0 := K3.out.at_ 0 rfl
                by_cases hjl : j < k
                · have tj : decide ((j : Int) < (k : Int)) = true := decide_eq_true (by omega)
                  have hjb : j < bs.length := by omega
                  obtain ⟨b', o', e', -, r0, -, -, -, hok'⟩ := (SW.out _ (below_mono HB2.out HZ.out)).at_ hjb
                  cases e'
                  have NE := Lib.hid (NS.out j hjb hjl)
                  have NN : Hid ((bs[j]'hjb).nm ≠ y.nm → ∀ i (hi : i < bs.length), i < j + 1 → (bs[i]'hi).nm ≠ y.nm) := fun h i hi hij => by
                    rcases Nat.lt_succ_iff_lt_or_eq.1 hij with h3 | rfl
                    · exact ALL2.out i hi h3
                    · exact h
                  have hnz := hok'.nl
                  clear hok'
                  generalize bs[j]'hjb = z at *
                  go_upto_region 24 with fail
                  go_cut [87] from 70 to 87 (fun sx wx => sx = .bool (decide (z.nm = y.nm)) ∧ Below wz.heap.size wz wx)
                  case first =>
                    have J0 : wz.drew.cell? ⟨w.heap.size, 0, none⟩ = some (.slice (some ⟨b, o, none⟩) bs.length c) ∧ wz.drew.cell? ⟨b, o + k * 4, none⟩ = some (.string ⟨y.nm.toArray⟩) ∧ wz.drew.cell? ⟨b, o + j * 4, none⟩ = some (.string ⟨z.nm.toArray⟩) := ⟨k0, q0, r0⟩
                    refine wp_region_held_drew (S := fun w' => w'.cell? ⟨w.heap.size, 0, none⟩ = some (.slice (some ⟨b, o, none⟩) bs.length c) ∧ w'.cell? ⟨b, o + k * 4, none⟩ = some (.string ⟨y.nm.toArray⟩) ∧ w'.cell? ⟨b, o + j * 4, none⟩ = some (.string ⟨z.nm.toArray⟩)) (by kernel_rfl) (J0) (fun hHeld => ?_)
                    refine wpAnyH_take (i := 0) (v := .pointer (some ⟨w.heap.size, 0, none⟩)) rfl (by kernel_rfl) (by kernel_rfl) (by kernel_rfl) (fun _ _ _ h => h) (Or.inl ⟨by rfl, by intro w hSw; (try dsimp only at hSw); go_simp⟩) (by assumption) ?_
                    (try simp only [Act.put, List.getElem_toArray, List.getElem_cons_zero, List.setIfInBounds_toArray, List.set_cons_zero, List.set_cons_succ])
                    refine wpAnyH_take (i := 1) (v := .slice (some ⟨b, o, none⟩) bs.length c) rfl (by kernel_rfl) (by kernel_rfl) (by kernel_rfl) (fun _ _ _ h => h) (Or.inl ⟨by rfl, by intro w hSw; (try dsimp only at hSw); go_simp⟩) (by assumption) ?_
                    (try simp only [Act.put, List.getElem_toArray, List.getElem_cons_zero, List.getElem_cons_succ, List.setIfInBounds_toArray, List.set_cons_zero, List.set_cons_succ])
                    refine wpAnyH_take (i := 2) (v := .int .i64 j) rfl (by kernel_rfl) (by kernel_rfl) (by kernel_rfl) (fun _ _ _ h => h) (Or.inl ⟨by rfl, by intro w hSw; (try dsimp only at hSw); go_simp⟩) (by assumption) ?_
                    (try simp only [Act.put, List.getElem_toArray, List.getElem_cons_zero, List.getElem_cons_succ, List.setIfInBounds_toArray, List.set_cons_zero, List.set_cons_succ])
                    refine wpAnyH_take (i := 3) (v := .pointer (some ⟨b, o + j * 4, none⟩)) rfl (by kernel_rfl) (by kernel_rfl) (by kernel_rfl) (fun _ _ _ h => h) (Or.inl ⟨by rfl, by intro w hSw; (try dsimp only at hSw); go_simp⟩) (by assumption) ?_
                    (try simp only [Act.put, List.getElem_toArray, List.getElem_cons_zero, List.getElem_cons_succ, List.setIfInBounds_toArray, List.set_cons_zero, List.set_cons_succ])
                    refine wpAnyH_take (i := 4) (v := .pointer (some ⟨b, o + j * 4, none⟩)) rfl (by kernel_rfl) (by kernel_rfl) (by kernel_rfl) (fun _ _ _ h => h) (Or.inl ⟨by rfl, by intro w hSw; (try dsimp only at hSw); go_simp⟩) (by assumption) ?_
                    (try simp only [Act.put, List.getElem_toArray, List.getElem_cons_zero, List.getElem_cons_succ, List.setIfInBounds_toArray, List.set_cons_zero, List.set_cons_succ])
                    refine wpAnyH_take (i := 5) (v := .string ⟨z.nm.toArray⟩) rfl (by kernel_rfl) (by kernel_rfl) (by kernel_rfl) (fun _ _ _ h => h) (Or.inl ⟨by rfl, by intro w hSw; (try dsimp only at hSw); go_simp⟩) (by assumption) ?_
                    (try simp only [Act.put, List.getElem_toArray, List.getElem_cons_zero, List.getElem_cons_succ, List.setIfInBounds_toArray, List.set_cons_zero, List.set_cons_succ])
                    refine wpAnyH_take (i := 6) (v := .pointer (some ⟨w.heap.size, 0, none⟩)) rfl (by kernel_rfl) (by kernel_rfl) (by kernel_rfl) (fun _ _ _ h => h) (Or.inl ⟨by rfl, by intro w hSw; (try dsimp only at hSw); go_simp⟩) (by assumption) ?_
                    (try simp only [Act.put, List.getElem_toArray, List.getElem_cons_zero, List.getElem_cons_succ, List.setIfInBounds_toArray, List.set_cons_zero, List.set_cons_succ])
                    refine wpAnyH_take (i := 7) (v := .slice (some ⟨b, o, none⟩) bs.length c) rfl (by kernel_rfl) (by kernel_rfl) (by kernel_rfl) (fun _ _ _ h => h) (Or.inl ⟨by rfl, by intro w hSw; (try dsimp only at hSw); go_simp⟩) (by assumption) ?_
                    (try simp only [Act.put, List.getElem_toArray, List.getElem_cons_zero, List.getElem_cons_succ, List.setIfInBounds_toArray, List.set_cons_zero, List.set_cons_succ])
                    refine wpAnyH_take (i := 8) (v := .int .i64 k) rfl (by kernel_rfl) (by kernel_rfl) (by kernel_rfl) (fun _ _ _ h => h) (Or.inl ⟨by rfl, by intro w hSw; (try dsimp only at hSw); go_simp⟩) (by assumption) ?_
                    (try simp only [Act.put, List.getElem_toArray, List.getElem_cons_zero, List.getElem_cons_succ, List.setIfInBounds_toArray, List.set_cons_zero, List.set_cons_succ])
                    refine wpAnyH_take (i := 9) (v := .pointer (some ⟨b, o + k * 4, none⟩)) rfl (by kernel_rfl) (by kernel_rfl) (by kernel_rfl) (fun _ _ _ h => h) (Or.inl ⟨by rfl, by intro w hSw; (try dsimp only at hSw); go_simp⟩) (by assumption) ?_
                    (try simp only [Act.put, List.getElem_toArray, List.getElem_cons_zero, List.getElem_cons_succ, List.setIfInBounds_toArray, List.set_cons_zero, List.set_cons_succ])
                    refine wpAnyH_take (i := 10) (v := .pointer (some ⟨b, o + k * 4, none⟩)) rfl (by kernel_rfl) (by kernel_rfl) (by kernel_rfl) (fun _ _ _ h => h) (Or.inl ⟨by rfl, by intro w hSw; (try dsimp only at hSw); go_simp⟩) (by assumption) ?_
                    (try simp only [Act.put, List.getElem_toArray, List.getElem_cons_zero, List.getElem_cons_succ, List.setIfInBounds_toArray, List.set_cons_zero, List.set_cons_succ])
                    refine wpAnyH_take (i := 11) (v := .string ⟨y.nm.toArray⟩) rfl (by kernel_rfl) (by kernel_rfl) (by kernel_rfl) (fun _ _ _ h => h) (Or.inl ⟨by rfl, by intro w hSw; (try dsimp only at hSw); go_simp⟩) (by assumption) ?_
                    (try simp only [Act.put, List.getElem_toArray, List.getElem_cons_zero, List.getElem_cons_succ, List.setIfInBounds_toArray, List.set_cons_zero, List.set_cons_succ])
                    refine wpAnyH_take (i := 12) (v := .bool (decide (z.nm = y.nm))) rfl (by kernel_rfl) (by kernel_rfl) (by kernel_rfl) (fun _ _ _ h => h) (Or.inl ⟨by rfl, by intro w hSw; (try dsimp only at hSw); go_simp; by_cases h : z.nm = y.nm <;> simp [h]⟩) (by assumption) ?_
                    (try simp only [Act.put, List.getElem_toArray, List.getElem_cons_zero, List.getElem_cons_succ, List.setIfInBounds_toArray, List.set_cons_zero, List.set_cons_succ])
                    refine wpAnyH_done (by kernel_rfl) ?_ _
                    go_wp2
                    go_meet
                    exact ⟨rfl, (Below.refl _ _).drew⟩
                  case rest =>
                    obtain ⟨rfl, hb⟩ := hcut
                    have HZ2 := Lib.hid (below_mono HZ.out hb)
                    clear hb k0 q0 r0
                    by_cases hnm : z.nm = y.nm
                    · have E := Lib.hid (NE.out hnm)
                      have tn : decide (z.nm = y.nm) = true := decide_eq_true hnm
                      rw [tn]
                      clear tn hnm
                      go_wp2
                      go_ret
                      exact ⟨by rw [E.out]; rfl, below_mono B0.out (below_mono HB2.out HZ2.out)⟩
                    · have E := Lib.hid (NN.out hnm)
                      have tn : decide (z.nm = y.nm) = false := decide_eq_false hnm
                      rw [tn]
                      clear tn hnm
                      go_wp2
                      go_roundw
                      case rel => exact ⟨j + 1, by omega, by go_num, E.out, HZ2.out⟩
                      case measure => simp [intOf]; omega
                · obtain rfl : j = k := by omega
                  have tj : decide ((j : Int) < (j : Int)) = false := decide_eq_false (by omega)
                  have E := Lib.hid (NX.out GY.out ALL2.out)
                  go_wp2
                  go_roundw
                  case rel => exact ⟨j + 1, by omega, by go_num, E.out, below_mono HB2.out HZ.out⟩
                  case measure => simp [intOf]; omega
          · obtain rfl : k = bs.length := by omega
            have tk : decide ((bs.length : Int) < (bs.length : Int)) = false := decide_eq_false (by omega)
            have E : Hid (chkE bs = 0) := chkE_good (by omega) FEW.out ALL.out.all
            go_wp2
            go_ret
            exact ⟨by rw [E.out]; rfl, below_mono B0.out HB.out⟩

end Go.Proofs.Ytghallnooijfhaa

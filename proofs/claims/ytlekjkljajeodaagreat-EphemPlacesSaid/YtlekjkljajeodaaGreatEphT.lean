import Derived.Test.YtlekjkljajeodaaGreatMg9
import Derived.Test.YtlekjkljajeodaaGreatEphS
import Derived.Deep.CutRange
import Derived.Deep.RegionHeld
set_option maxHeartbeats 8000000
set_option maxRecDepth 100000
namespace Go.Proofs.YtlekjkljajeodaaGreat
open List renaming getElem_toArray → z0q, getElem_cons_zero → z1q, getElem_cons_succ → z2q, setIfInBounds_toArray → z3q, set_cons_zero → z4q, set_cons_succ → z5q
open Lib renaming hid → lh
open Go.RowKit
attribute [local go_sem ↓] Go.wp_at_zero Go.wp_at_succ
theorem manyS_l {s : SG} (h : ∀ j, j < 3 → (s.l j).length ≤ 16) : manyS s = false := by
 have a := h 0 (by omega);have b := h 1 (by omega);have c := h 2 (by omega);unfold SG.l at a b c;simp at a b c;unfold manyS;simp; omega
theorem manyS_bad {s : SG} {j : Nat} (h : 16 < (s.l j).length) : manyS s = true := by
 unfold SG.l at h;unfold manyS;simp only [Bool.or_eq_true, decide_eq_true_eq];split at h
 ·omega
 ·split at h <;> omega
theorem goodB_iff {b : BG} : goodB b = true ↔ GoodB b := by unfold goodB; simp
theorem GoodK.zero (bs : List BG) : GoodK bs 0 := fun j hj h => by omega
theorem seen_none {bs : List BG} {k : Nat} {s : List UInt8} (h : ∀ j (hj : j < bs.length), j < k → (bs[j]'hj).nm ≠ s) : seenB bs k s = false := by
 unfold seenB;rw [List.any_eq_false];intro b hb;obtain ⟨j, hj, rfl⟩ := List.mem_take_iff_getElem.1 hb;have := h j (by omega) (by omega);simpa using this
theorem seen_some {bs : List BG} {j k : Nat} {s : List UInt8} (hj : j < bs.length) (hk : j < k) (h : (bs[j]'hj).nm = s) : seenB bs k s = true := by
 unfold seenB;rw [List.any_eq_true];exact ⟨_, List.mem_take_iff_getElem.2 ⟨j, by omega, rfl⟩, by simpa using h⟩
theorem recheck_any (bs : List BG) (A : Option Addr) (c B : Nat) (w : World) (hs : SlB w B A bs c) :
  Calls Tryz.prog 124 #[.agg #[.slice A bs.length c]] w fun e w' => e = .returned (.int .i64 (chkE bs)) ∧ Below w.heap.size w w' := by
 have hm := hs.len;have S := lh hs;have B0 : Hid (Below w.heap.size w (w.alloc (.cells #[.slice A bs.length c] 38))) := blw1 _ _;have K0 : Hid (BlkV (w.alloc (.cells #[.slice A bs.length c] 38)) w.heap.size 38 #[.slice A bs.length c]) := BlkV.fresh rfl _ _;clear hs;go_enter Tryz.func124, Tryz.ntmps124
 go_upto_region 1 with fail
 generalize hw0 : w.alloc (.cells #[.slice A bs.length c] 38) = w0 at *;clear hw0;have k0 := K0.out.at_ 0 rfl;have hlk := K0.out.lt;have SW := lh (fun W (h : Below w0.heap.size w0 W) => S.out.below (q0a B0.out h));clear S;by_cases hbig : 12 < bs.length
 ·have t1 : decide ((12 : Int) < (bs.length : Int)) = true := decide_eq_true (by omega);have E := lh (chkE_big hbig);go_wp2
  go_ret
  exact ⟨by rw [E.out]; rfl, B0.out⟩
 ·have t1 : decide ((12 : Int) < (bs.length : Int)) = false := decide_eq_false (by omega);go_wp2
  go_loopw [3] (fun s3 wr => ∃ k : Nat, k ≤ bs.length ∧ s3 = .int .i64 k ∧ (∀ b ∈ bs.take k, manyB b = false) ∧ wr = w0) (fun v _ => bs.length - (intOf v).toNat)
  case atStart => exact ⟨0, Nat.zero_le _, rfl, by simp, rfl⟩
  case round =>
   obtain ⟨k, hk, rfl, hall, hw⟩ := hrel;replace hw := hw.symm;subst hw;have ALL := lh hall;clear hall;by_cases hlt : k < bs.length
   ·have tk' : decide ((k : Int) < (bs.length : Int)) = true := decide_eq_true (by omega);obtain ⟨b, o, rfl, -, q0, q1, q2, q3, hok⟩ := (SW.out _ (Below.refl _ _)).at_ hlt;have OK := lh hok;have hst : Hid (bs[k]'hlt ∈ bs) := List.getElem_mem hlt;have HG : Hid (manyB (bs[k]'hlt) = false → ∀ f ∈ bs.take (k + 1), manyB f = false) := fun h => q1f hlt ALL.out h;have hml := hok.sl.len;clear hok;generalize bs[k]'hlt = y at *;obtain ⟨yA, hyA⟩ : ∃ a, y.A = a := ⟨_, rfl⟩;rw [hyA] at q3;have SSW : Hid (SlS w0 B yA y.ss y.c) := (by rw [← hyA]; exact OK.out.sl);clear hyA OK;by_cases h100 : 100 < y.ss.length
    ·have t2 : decide ((100 : Int) < (y.ss.length : Int)) = true := decide_eq_true (by omega);have E := lh (chkE_many hst.out (many_true1 h100));go_wp2
     go_ret
     exact ⟨by rw [E.out]; rfl, B0.out⟩
    ·have t2 : decide ((100 : Int) < (y.ss.length : Int)) = false := decide_eq_false (by omega);go_wp2
     go_loopw [4] (fun s4 wv => ∃ j : Nat, j ≤ y.ss.length ∧ s4 = .int .i64 j ∧ (∀ s ∈ y.ss.take j, manyS s = false) ∧ wv = w0) (fun v _ => y.ss.length - (intOf v).toNat)
     case atStart => exact ⟨0, Nat.zero_le _, rfl, by simp, rfl⟩
     case round =>
      obtain ⟨j, hj, rfl, hall, hw⟩ := hrel;replace hw := hw.symm;subst hw;have ALL2 := lh hall;clear hall;by_cases hjl : j < y.ss.length
      ·have tj : decide ((j : Int) < (y.ss.length : Int)) = true := decide_eq_true (by omega);have hst2 : Hid (y.ss[j]'hjl ∈ y.ss) := List.getElem_mem hjl;have HG2 : Hid (manyS (y.ss[j]'hjl) = false → ∀ f ∈ y.ss.take (j + 1), manyS f = false) := fun h => q1f hjl ALL2.out h;have hlen2 := fun i => (SSW.out.sli hjl i).len;obtain ⟨b2, o2, rfl, -, pC⟩ := SSW.out.atC hjl;have PC := lh pC;clear pC;generalize y.ss[j]'hjl = s at *;have HL2 := lh hlen2;clear hlen2;go_wp2
       go_loopw [5] (fun s5 wv => ∃ i : Nat, i ≤ 3 ∧ s5 = .int .i64 i ∧ (∀ n, n < i → (s.l n).length ≤ 16) ∧ wv = w0) (fun v _ => 3 - (intOf v).toNat)
       case atStart => exact ⟨0, by omega, rfl, by omega, rfl⟩
       case round =>
        obtain ⟨i, hi, rfl, hall, hw⟩ := hrel;replace hw := hw.symm;subst hw;have ALL3 := lh hall;clear hall;by_cases hi3 : i < 3
        ·have ti : decide ((i : Int) < 3) = true := decide_eq_true (by omega);have pc := PC.out i hi3;have hsl := HL2.out i;have NX : Hid ((s.l i).length ≤ 16 → ∀ n, n < i + 1 → (s.l n).length ≤ 16) := fun h => below3 ALL3.out h;have NB : Hid (16 < (s.l i).length → chkE bs = 4) := fun h => chkE_many hst.out (many_true2 hst2.out (manyS_bad h));generalize s.l i = l at *;by_cases h16 : 16 < l.length
         ·have t3 : decide ((16 : Int) < (l.length : Int)) = true := decide_eq_true (by omega);have E := lh (NB.out h16);go_wp2
          go_ret
          exact ⟨by rw [E.out]; rfl, B0.out⟩
         ·have t3 : decide ((16 : Int) < (l.length : Int)) = false := decide_eq_false (by omega);have E := lh (NX.out (by omega));go_wp2
          go_roundw
          case rel => exact ⟨i + 1, by omega, by go_num, E.out, (by first | rfl | trivial)⟩
          case measure => simp [intOf]; omega
        ·obtain rfl : i = 3 := by omega
         have ti : decide (((3 : Nat) : Int) < 3) = false := rfl;have E := lh (HG2.out (manyS_l ALL3.out));go_wp2
         go_roundw
         case rel => exact ⟨j + 1, by omega, by go_num, E.out, (by first | rfl | trivial)⟩
         case measure => simp [intOf]; omega
      ·obtain rfl : j = y.ss.length := by omega
       have tj : decide ((y.ss.length : Int) < (y.ss.length : Int)) = false := decide_eq_false (by omega);have E := lh (HG.out (many_false (by omega) (by have := ALL2.out; rwa [List.take_length] at this)));go_wp2
       go_roundw
       case rel => exact ⟨k + 1, by omega, by go_num, E.out, (by first | rfl | trivial)⟩
       case measure => simp [intOf]; omega
   ·obtain rfl : k = bs.length := by omega
    have tk' : decide ((bs.length : Int) < (bs.length : Int)) = false := decide_eq_false (by omega);have FEW : Hid (∀ b ∈ bs, manyB b = false) := (by have := ALL.out; rwa [List.take_length] at this);clear ALL;go_wp2
    clear tk';go_loopw [6] (fun s6 wv => ∃ k : Nat, k ≤ bs.length ∧ s6 = .int .i64 k ∧ GoodK bs k ∧ Below w0.heap.size w0 wv) (fun v _ => bs.length - (intOf v).toNat)
    case atStart => exact ⟨0, Nat.zero_le _, rfl, GoodK.zero _, Below.refl _ _⟩
    case round =>
     generalize wr = wv at *;obtain ⟨k, hk, rfl, hall, hbw⟩ := hrel;have ALL := lh hall;have HB := lh hbw;have K1 := lh (K0.out.keep hbw);clear hall hbw k0;have k0 := K1.out.at_ 0 rfl;by_cases hlt : k < bs.length
     ·have tk' : decide ((k : Int) < (bs.length : Int)) = true := decide_eq_true (by omega);have S2 := lh (SW.out _ HB.out);obtain ⟨b, o, rfl, -, q0, q1, q2, q3, hok⟩ := S2.out.at_ hlt;have CB := lh (rbody_any (bs[k]'hlt) B wv hok);have NG : Hid (¬ GoodB (bs[k]'hlt) → chkE bs = 8) := fun h => chkE_bad (by omega) FEW.out (not_good hlt h);have NS : Hid (∀ j (hj : j < bs.length), j < k → (bs[j]'hj).nm = (bs[k]'hlt).nm → chkE bs = 8) := fun j hj hjk h => chkE_bad (by omega) FEW.out (not_new hlt (seen_some hj hjk h));have NX : Hid (GoodB (bs[k]'hlt) → (∀ j (hj : j < bs.length), j < k → (bs[j]'hj).nm ≠ (bs[k]'hlt).nm) → GoodK bs (k + 1)) := fun h1 h2 => ALL.out.step hlt h1 (seen_none h2);have hnl := hok.nl;clear hok S2;generalize hy : bs[k]'hlt = y at *;have HY := lh hy;clear hy
      cases hg : goodB y with
      | false =>
       have E := lh (NG.out (fun h => by rw [goodB_t h] at hg; cases hg));rw [hg] at CB;clear hg;go_wp2_with fail
       refine CB.out.mono ?_;rintro e w2 ⟨rfl, hb⟩;have HB2 := lh (q0a HB.out hb);clear hb;go_wp2
       go_ret
       exact ⟨by rw [E.out]; rfl, q0a B0.out HB2.out⟩
      | true =>
       have GY := lh (goodB_iff.1 hg);rw [hg] at CB;clear hg;go_wp2_with fail
       refine CB.out.mono ?_;rintro e w2 ⟨rfl, hb⟩;have HB2 := lh (q0a HB.out hb);have K2 := lh (K1.out.keep hb);replace q0 := q0b hb q0;clear hb CB q1 q2 q3 k0;have k0 := K2.out.at_ 0 rfl;go_wp2
       go_loopw [7] (fun s7 wz => ∃ j : Nat, j ≤ k ∧ s7 = .int .i64 j ∧ (∀ i (hi : i < bs.length), i < j → (bs[i]'hi).nm ≠ y.nm) ∧ Below w2.heap.size w2 wz) (fun v _ => k - (intOf v).toNat)
       case atStart => exact ⟨0, Nat.zero_le _, rfl, fun i hi h => by omega, Below.refl _ _⟩
       case round =>
        generalize wr = wz at *;obtain ⟨j, hj, rfl, hall2, hbz⟩ := hrel;have ALL2 := lh hall2;have HZ := lh hbz;have K3 := lh (K2.out.keep hbz);replace q0 := q0b hbz q0;clear hall2 hbz k0;have k0 := K3.out.at_ 0 rfl;by_cases hjl : j < k
        ·have tj : decide ((j : Int) < (k : Int)) = true := decide_eq_true (by omega);have hjb : j < bs.length := (by omega);obtain ⟨b', o', e', -, r0, -, -, -, hok'⟩ := (SW.out _ (q0a HB2.out HZ.out)).at_ hjb;cases e'
         have NE := lh (NS.out j hjb hjl)
         have NN : Hid ((bs[j]'hjb).nm ≠ y.nm → ∀ i (hi : i < bs.length), i < j + 1 → (bs[i]'hi).nm ≠ y.nm) := fun h i hi hij => by
          rcases Nat.lt_succ_iff_lt_or_eq.1 hij with h3 | rfl
          ·exact ALL2.out i hi h3
          ·exact h
         have hnz := hok'.nl;clear hok';generalize bs[j]'hjb = z at *;go_upto_region 24 with fail
         go_cut [87] from 70 to 87 (fun sx wx => sx = .bool (decide (z.nm = y.nm)) ∧ Below wz.heap.size wz wx)
         case first =>
          have J0 : wz.drew.cell? ⟨w.heap.size, 0, none⟩ = some (.slice (some ⟨b, o, none⟩) bs.length c) ∧ wz.drew.cell? ⟨b, o + k * 4, none⟩ = some (.string ⟨y.nm.toArray⟩) ∧ wz.drew.cell? ⟨b, o + j * 4, none⟩ = some (.string ⟨z.nm.toArray⟩) := ⟨k0, q0, r0⟩;refine wp_region_held_drew (S := fun w' => w'.cell? ⟨w.heap.size, 0, none⟩ = some (.slice (some ⟨b, o, none⟩) bs.length c) ∧ w'.cell? ⟨b, o + k * 4, none⟩ = some (.string ⟨y.nm.toArray⟩) ∧ w'.cell? ⟨b, o + j * 4, none⟩ = some (.string ⟨z.nm.toArray⟩)) (by kernel_rfl) (J0) (fun hHeld => ?_);refine tk 0 (.pointer (some ⟨w.heap.size, 0, none⟩)) rfl ?_;(try simp only [Act.put, z0q, z1q, z3q, z4q, z5q]);refine tk 1 (.slice (some ⟨b, o, none⟩) bs.length c) rfl ?_;(try simp only [Act.put, z0q, z1q, z2q, z3q, z4q, z5q]);refine tk 2 (.int .i64 j) rfl ?_;(try simp only [Act.put, z0q, z1q, z2q, z3q, z4q, z5q]);refine tk 3 (.pointer (some ⟨b, o + j * 4, none⟩)) rfl ?_;(try simp only [Act.put, z0q, z1q, z2q, z3q, z4q, z5q]);refine tk 4 (.pointer (some ⟨b, o + j * 4, none⟩)) rfl ?_;(try simp only [Act.put, z0q, z1q, z2q, z3q, z4q, z5q]);refine tk 5 (.string ⟨z.nm.toArray⟩) rfl ?_;(try simp only [Act.put, z0q, z1q, z2q, z3q, z4q, z5q]);refine tk 6 (.pointer (some ⟨w.heap.size, 0, none⟩)) rfl ?_;(try simp only [Act.put, z0q, z1q, z2q, z3q, z4q, z5q]);refine tk 7 (.slice (some ⟨b, o, none⟩) bs.length c) rfl ?_;(try simp only [Act.put, z0q, z1q, z2q, z3q, z4q, z5q]);refine tk 8 (.int .i64 k) rfl ?_;(try simp only [Act.put, z0q, z1q, z2q, z3q, z4q, z5q]);refine tk 9 (.pointer (some ⟨b, o + k * 4, none⟩)) rfl ?_;(try simp only [Act.put, z0q, z1q, z2q, z3q, z4q, z5q]);refine tk 10 (.pointer (some ⟨b, o + k * 4, none⟩)) rfl ?_;(try simp only [Act.put, z0q, z1q, z2q, z3q, z4q, z5q]);refine tk 11 (.string ⟨y.nm.toArray⟩) rfl ?_;(try simp only [Act.put, z0q, z1q, z2q, z3q, z4q, z5q]);refine wpAnyH_take (i := 12) (v := .bool (decide (z.nm = y.nm))) rfl (by kernel_rfl) (by kernel_rfl) (by kernel_rfl) (fun _ _ _ h => h) (Or.inl ⟨by rfl, by intro w hSw; (try dsimp only at hSw); go_simp; by_cases h : z.nm = y.nm <;> simp [h]⟩) (by assumption) ?_;(try simp only [Act.put, z0q, z1q, z2q, z3q, z4q, z5q]);refine wpAnyH_done (by kernel_rfl) ?_ _;go_wp2
          go_meet
          exact ⟨rfl, (Below.refl _ _).drew⟩
         case rest =>
          obtain ⟨rfl, hb⟩ := hcut;have HZ2 := lh (q0a HZ.out hb);clear hb k0 q0 r0;by_cases hnm : z.nm = y.nm
          ·have E := lh (NE.out hnm);have tn : decide (z.nm = y.nm) = true := decide_eq_true hnm;rw [tn];clear tn hnm;go_wp2
           go_ret
           exact ⟨by rw [E.out]; rfl, q0a B0.out (q0a HB2.out HZ2.out)⟩
          ·have E := lh (NN.out hnm);have tn : decide (z.nm = y.nm) = false := decide_eq_false hnm;rw [tn];clear tn hnm;go_wp2
           go_roundw
           case rel => exact ⟨j + 1, by omega, by go_num, E.out, HZ2.out⟩
           case measure => simp [intOf]; omega
        ·obtain rfl : j = k := by omega
         have tj : decide ((j : Int) < (j : Int)) = false := decide_eq_false (by omega);have E := lh (NX.out GY.out ALL2.out);go_wp2
         go_roundw
         case rel => exact ⟨j + 1, by omega, by go_num, E.out, q0a HB2.out HZ.out⟩
         case measure => simp [intOf]; omega
     ·obtain rfl : k = bs.length := by omega
      have tk' : decide ((bs.length : Int) < (bs.length : Int)) = false := decide_eq_false (by omega);have E : Hid (chkE bs = 0) := chkE_good (by omega) FEW.out ALL.out.all;go_wp2
      go_ret
      exact ⟨by rw [E.out]; rfl, q0a B0.out HB.out⟩
theorem getV_in {bs : List BG} {i : Int} (h : hasE bs i = 0) : ∃ hk : i.toNat < bs.length, getV bs i = bs[i.toNat]'hk ∧ i = (i.toNat : Int) := by
 obtain ⟨-, h1, h2⟩ := hasE_zero h;exact ⟨by omega, getV_ok h ⟨h1, h2⟩, by omega⟩
theorem rhas_any (bs : List BG) (A : Option Addr) (c B : Nat) (i : Int) (w : World) (hs : SlB w B A bs c) :
  Calls Tryz.prog 68 #[.agg #[.slice A bs.length c], .int .i64 i] w fun e w' => e = .returned (.int .i64 (hasE bs i)) ∧ Below w.heap.size w w' := by
 have S := lh hs;have B0 : Hid (Below w.heap.size w (w.alloc (.cells #[.slice A bs.length c] 38))) := blw1 _ _;have K0 : Hid (BlkV (w.alloc (.cells #[.slice A bs.length c] 38)) w.heap.size 38 #[.slice A bs.length c]) := BlkV.fresh rfl _ _;have CK := lh (fun V (h : Below w.heap.size w V) => recheck_any bs A c B V (S.out.below h));have hm := hs.len;clear hs S;go_enter Tryz.func68, Tryz.ntmps68
 go_wp2_with fail
 generalize hw0 : w.alloc (.cells #[.slice A bs.length c] 38) = w0 at *;clear hw0;refine (CK.out _ B0.out).mono ?_;rintro e w1 ⟨rfl, hb⟩;have HB := lh (q0a B0.out hb);have K1 := lh (K0.out.keep hb);clear hb B0 K0;have k0 := K1.out.at_ 0 rfl;have hlk := K1.out.lt;by_cases h0 : chkE bs = 0
 ·rw [h0];by_cases h1 : i < 0
  ·have t1 : decide (i < 0) = true := decide_eq_true h1;have E := lh (hasE_out (bs := bs) (i := i) h0 (by omega));clear h0 CK;go_wp2
   go_ret
   exact ⟨by rw [E.out]; rfl, HB.out⟩
  ·have t1 : decide (i < 0) = false := decide_eq_false h1;by_cases h2 : (bs.length : Int) ≤ i
   ·have t2 : decide ((bs.length : Int) ≤ i) = true := decide_eq_true h2;have E := lh (hasE_out (bs := bs) (i := i) h0 (by omega));clear h0 CK;go_wp2
    go_ret
    exact ⟨by rw [E.out]; rfl, HB.out⟩
   ·have t2 : decide ((bs.length : Int) ≤ i) = false := decide_eq_false h2;have E := lh (hasE_in (bs := bs) (i := i) h0 (by omega));clear h0 CK;go_wp2
    go_ret
    exact ⟨by rw [E.out]; rfl, HB.out⟩
 ·have E := lh (hasE_bad (i := i) h0);generalize chkE bs = x at *;have t0 : (x != 0) = true := bne_iff_ne.2 h0;clear h0;go_wp2_with fail
  refine (CK.out _ HB.out).mono ?_;rintro e w2 ⟨rfl, hb⟩;have HB2 := lh (q0a HB.out hb);clear hb;go_wp2
  go_ret
  exact ⟨by rw [E.out]; rfl, HB2.out⟩
theorem rat_any (y : BG) (B : Nat) (tm : Int) (w : World) (hs : OkB w B y) :
  Calls Tryz.prog 69 #[.agg #[.string ⟨y.nm.toArray⟩, .int .i64 y.gm, .int .i64 y.rd, .slice y.A y.ss.length y.c], .int .i64 tm] w fun e w' => e = .returned (.int .i64 (atI y.ss tm)) ∧ Below w.heap.size w w' := by
 have hml := hs.sl.len;have S := lh hs.sl;obtain ⟨yA, hyA⟩ : ∃ a, y.A = a := ⟨_, rfl⟩;rw [hyA] at S ⊢;clear hs hyA;have B0 : Hid (Below w.heap.size w (w.alloc (.cells #[.string ⟨y.nm.toArray⟩, .int .i64 y.gm, .int .i64 y.rd, .slice yA y.ss.length y.c] 56))) := blw1 _ _;have K0 : Hid (BlkV (w.alloc (.cells #[.string ⟨y.nm.toArray⟩, .int .i64 y.gm, .int .i64 y.rd, .slice yA y.ss.length y.c] 56)) w.heap.size 56 #[.string ⟨y.nm.toArray⟩, .int .i64 y.gm, .int .i64 y.rd, .slice yA y.ss.length y.c]) := BlkV.fresh rfl _ _;replace S := lh (S.out.below B0.out);have EF := lh (fun k (hk : k < y.ss.length) hn h => (atI_found (t := tm) hk hn h).1);have EN := lh (fun hn => (atI_none (ss := y.ss) (t := tm) hn).1);generalize atI y.ss tm = R at *;go_enter Tryz.func69, Tryz.ntmps69
 go_upto_region 1 with fail
 generalize hw0 : w.alloc (.cells #[.string ⟨y.nm.toArray⟩, .int .i64 y.gm, .int .i64 y.rd, .slice yA y.ss.length y.c] 56) = w0 at *;clear hw0;have k3 := K0.out.at_ 3 rfl;have hlk := K0.out.lt;go_wp2
 go_loopw [5] (fun s5 wv => ∃ k : Nat, k ≤ y.ss.length ∧ s5 = .int .i64 k ∧ (∀ s ∈ y.ss.take k, inS tm s = false) ∧ wv = w0) (fun v _ => y.ss.length - (intOf v).toNat)
 case atStart => exact ⟨0, Nat.zero_le _, rfl, by simp, rfl⟩
 case round =>
  obtain ⟨k, hk, rfl, hall, hw⟩ := hrel;replace hw := hw.symm;subst hw;have ALL := lh hall;clear hall;by_cases hlt : k < y.ss.length
  ·have tk' : decide ((k : Int) < (y.ss.length : Int)) = true := decide_eq_true (by omega);have hF := lh (fun h => EF.out k hlt ALL.out h);have hG := lh (fun h => q1f hlt ALL.out (P := fun s => inS tm s = false) h);obtain ⟨b, o, rfl, -, q0, q1, -, -, -, -⟩ := S.out.at_ hlt;generalize y.ss[k]'hlt = s at *;go_upto_region 4 with fail
   go_cut [30] from 6 to 31 (fun sx wx => sx = .bool (inS tm s) ∧ wx = w0)
   case first =>
    by_cases c1 : s.F ≤ tm
    ·have tc1 : decide (s.F ≤ tm) = true := decide_eq_true (by omega);by_cases c2 : tm ≤ s.T
     ·have tc2 : decide (tm ≤ s.T) = true := decide_eq_true (by omega);go_wp2
      go_meet
      exact ⟨congrArg Value.bool (by first | rfl | (simp [inS]; omega)), rfl⟩
     ·have tc2 : decide (tm ≤ s.T) = false := decide_eq_false (by omega);go_wp2
      go_meet
      exact ⟨congrArg Value.bool (by first | rfl | (simp [inS]; omega)), rfl⟩
    ·have tc1 : decide (s.F ≤ tm) = false := decide_eq_false (by omega);go_wp2
     go_meet
     exact ⟨congrArg Value.bool (by first | rfl | (simp [inS]; omega)), rfl⟩
   case rest =>
    obtain ⟨rfl, hw⟩ := hcut;replace hw := hw.symm;subst hw
    cases hz : inS tm s with
    | true =>
     have E := lh (hF.out hz);go_wp2
     go_ret
     exact ⟨by rw [E.out]; rfl, B0.out⟩
    | false =>
     have E := lh (hG.out hz);go_wp2
     go_roundw
     case rel => exact ⟨k + 1, by omega, by go_num, E.out, (by first | rfl | trivial)⟩
     case measure => simp [intOf]; omega
  ·obtain rfl : k = y.ss.length := by omega
   have tk' : decide ((y.ss.length : Int) < (y.ss.length : Int)) = false := decide_eq_false (by omega);have E := lh (EN.out (by have := ALL.out; rwa [List.take_length] at this));go_wp2
   go_ret
   exact ⟨by rw [E.out]; rfl, B0.out⟩
end Go.Proofs.YtlekjkljajeodaaGreat
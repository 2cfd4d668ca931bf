/- Walks: the reference's over by one limb, of limbs that need not be trimmed. -/
import Derived.Test.YtejapkdhbpngbaaW33
import Derived.Test.YtejapkdhbpngbaaW4
import Derived.Test.YtejapkdhbpngbaaW9
import Derived.Test.YtejapkdhbpngbaaW15
import Derived.Test.YtejapkdhbpngbaaW35
import Derived.Test.YtejapkdhbpngbaaW46
import Derived.Test.YtejapkdhbpngbaaMath11
import Derived.Deep.LoopGhost
namespace Go.Proofs.Ytejapkdhbpngbaa
open Go.RowKit

set_option maxRecDepth 100000 in
set_option maxHeartbeats 4000000 in
theorem over_two (A1 A2 : Option Addr) (l1 : List Nat) (d : Nat) (c1 c2 : Nat) (w : World) (hs1 : Sl w A1 l1 c1) (hs2 : Sl w A2 [d] c2) (hl2 : 2 ≤ l1.length) (hd : 0 < d) (hlen : l1.length ≤ 100000) :
    Calls Try.prog 57 #[.slice A1 l1.length c1, .slice A2 1 c2] w (LRes2 (limbs (val l1 / val [d])) (limbs (val l1 % val [d])) w) := by
  have hc0 : 0 ≤ cmpL l1 [d] := by
    unfold cmpL
    rw [if_neg (by have h1 : [d].length = 1 := rfl; omega), if_neg (by have h1 : [d].length = 1 := rfl; omega)]
    decide
  have hd2 : d < 4294967296 := hs2.lim d (by simp)
  have hvd : val [d] = d := by simp [val]
  rw [hvd]
  have Hs1 := Lib.hid hs1
  have Hs2 := Lib.hid hs2
  clear hs1 hs2 hvd
  have hcmp := fun W h1 h2 => rcompare_any A1 A2 l1 [d] c1 c2 W h1 h2
  simp only [List.length_cons, List.length_nil, Nat.zero_add] at hcmp
  generalize cmpL l1 [d] = z at *
  have Hc := Lib.hid hcmp
  clear hcmp
  go_enter Try.func57, Try.ntmps57
  go_wp2_with fail
  refine (Hc.out w Hs1.out Hs2.out).mono ?_
  rintro e w1 ⟨rfl, nd, rfl⟩
  have Hb : Hid (Below w.heap.size w (w.drewN nd)) := below_drewN (Below.refl _ _) _
  generalize w.drewN nd = w1 at *
  obtain ⟨b2, o2, rfl, hx⟩ := (Hs2.out.below Hb.out).rd.at_ (k := 0) (by simp)
  simp only [Nat.add_zero, List.getElem?_cons_zero, Option.getD_some] at hx
  go_wp2_with fail
  refine (rshort_any _ _ _ _ _ (Hs1.out.below Hb.out) (by omega) hd hd2).mono ?_
  rintro e w2 ⟨A', c', A2', c2', rfl, hsl, hsl2, hb2⟩
  have Hsl := Lib.hid hsl
  have Hsl2 := Lib.hid hsl2
  have Hb2 := Lib.hid (below_mono Hb.out hb2)
  clear hsl hsl2 hb2 hx
  go_wp2
  go_ret2
  exact ⟨A', c', A2', c2', rfl, Hsl.out, Hsl2.out, Hb2.out⟩
end Go.Proofs.Ytejapkdhbpngbaa

/- Walks: the reference's Sqrt. -/
namespace Go.Proofs.Ytejapkdhbpngbaa
open Go.RowKit
attribute [local go_sem ↓] Go.wp_at_zero Go.wp_at_succ

theorem shS_one {k : Nat} (hk : k ≤ 90000) : shS (wOf 1).1 (wOf 1).2 (k : Int) = ((false, limbs (2 ^ k)), 0) ∧ (limbs (2 ^ k)).length ≤ k / 32 + 1 := by
  have h1 : (limbs (2 ^ k)).length ≤ k / 32 + 1 := by
    rw [limbs_len_le, show (4294967296 : Nat) = 2 ^ 32 by rfl, ← Nat.pow_mul]
    exact Nat.pow_lt_pow_right (by omega) (by omega)
  refine ⟨?_, h1⟩
  have e : wOf 1 = (false, [1]) := rfl
  rw [e]
  have hb : badL false [1] = false := by rfl
  rw [shS_up hb (by omega)]
  unfold outN
  rw [show val [1] * 2 ^ k = 2 ^ k by simp [val], if_pos (by omega), Bool.false_and]

set_option maxRecDepth 100000 in
set_option maxHeartbeats 2000000 in
theorem rsqrt_pos (A : Option Addr) (l : List Nat) (c : Nat) (w : World) (hs : Sl w A l c) (hbad : badL false l = false) (hl0 : 0 < l.length) :
    Calls Try.prog 40 #[.agg #[.bool false, .slice A l.length c]] w (WRes (sqrtS false l) w) := by
  have Hs := Lib.hid hs
  obtain ⟨k1, m1, p1⟩ := good_canon hs.lim hbad
  have Hk1 := Lib.hid k1
  have hc := chk_good hbad
  have hav : 0 < val l := canon_val_pos k1 hl0
  have Hres : Hid (sqrtS false l = outN false (isq (val l))) := by unfold Hid sqrtS; rw [hbad, if_neg (by simp), if_neg (by simp)]
  obtain ⟨bn, hbn⟩ : ∃ bn, bn = bitLenN (val l) := ⟨_, rfl⟩
  have Hbits : Hid (bitsS false l = ((bn : Int), 0)) := by unfold Hid bitsS; rw [hbad, if_neg (by simp), hbn]
  have hlt : val l < 2 ^ bn := by rw [hbn]; unfold bitLenN; rw [if_neg (by omega)]; exact Nat.lt_log2_self
  have hbmax : bn ≤ 131072 := by
    have h1 : val l < 2 ^ (32 * l.length) := by
      have := val_lt k1.1
      rw [show (4294967296 : Nat) = 2 ^ 32 by rfl, ← Nat.pow_mul] at this
      exact this
    have h2 : bn ≤ 32 * l.length := by
      rw [hbn]; unfold bitLenN; rw [if_neg (by omega)]
      exact (Nat.log2_lt (by omega)).2 h1
    omega
  obtain ⟨k0, hk0⟩ : ∃ k0, k0 = (bn + 1) / 2 := ⟨_, rfl⟩
  have Hab : Hid (val l < (2 ^ k0 + 1) * (2 ^ k0 + 1)) := by unfold Hid; rw [hk0]; exact newton_start hlt
  have hk0z : ((bn : Int) + 1) / 2 = (k0 : Int) := by omega
  have hk0t : ((bn : Int) + 1).tdiv 2 = (k0 : Int) := by rw [Int.tdiv_eq_ediv_of_nonneg (by omega)]; exact hk0z
  have hk0m : k0 ≤ 65537 := by omega
  have hpos0 : 0 < 2 ^ k0 := Nat.two_pow_pos _
  have Hsh := Lib.hid (shS_one (k := k0) (by omega)).1
  have Hlen0 : Hid ((limbs (2 ^ k0)).length ≤ 3000) := by have := (shS_one (k := k0) (by omega)).2; unfold Hid; omega
  rw [Hres.out]
  clear hs hbad k1 p1 hlt hbn hk0 Hres
  go_enter Try.func40, Try.ntmps40
  go_wp2_with fail
  refine (rcheck_any false A l c _ ((Hs.out.alloc _).alloc _)).mono ?_
  rintro e w1 ⟨rfl, hb⟩
  have K : Hid (Cw w1 w.heap.size false A l.length c) := ⟨kept_cell hb (by go_simp), kept_cell hb (by go_simp)⟩
  have R : Hid (Cw w1 (w.heap.size + 1) false none 0 0) := ⟨kept_cell hb (by go_simp), kept_cell hb (by go_simp)⟩
  have F : Hid (Fw w1 (w.heap.size + 1)) := ⟨(hb.frozen (by simp)).trans (by go_simp), (hb.frozen (by simp)).trans (by go_simp)⟩
  have B : Hid (Below w.heap.size w w1) := below_mono (blw2 _ _ _) hb
  have S : Hid (Sl w1 A l c) := ((Hs.out.alloc _).alloc _).below hb
  clear hb
  obtain ⟨q0, q1⟩ := K.out
  go_wp2_with fail
  refine (rbits_any _ _ _ _ _ S.out).mono ?_
  rw [Hbits.out]
  rintro e w2 ⟨rfl, hb⟩
  clear q0 q1
  replace F : Hid (Fw w2 (w.heap.size + 1)) := Fw.keep F.out R.out hb
  replace R : Hid (Cw w2 (w.heap.size + 1) false none 0 0) := Cw.keep R.out hb
  replace K : Hid (Cw w2 w.heap.size false A l.length c) := Cw.keep K.out hb
  replace S : Hid (Sl w2 A l c) := Sl.below S.out hb
  replace B : Hid (Below w.heap.size w w2) := below_mono B.out hb
  clear hb
  go_wp2_with fail
  refine (rfrom_any 1 _ (by omega) (by omega)).mono ?_
  rintro e w3 ⟨A5, c5, rfl, hs5, hb⟩
  have S5 := Lib.hid hs5
  clear hs5
  replace F : Hid (Fw w3 (w.heap.size + 1)) := Fw.keep F.out R.out hb
  replace R : Hid (Cw w3 (w.heap.size + 1) false none 0 0) := Cw.keep R.out hb
  replace K : Hid (Cw w3 w.heap.size false A l.length c) := Cw.keep K.out hb
  replace S : Hid (Sl w3 A l c) := Sl.below S.out hb
  replace B : Hid (Below w.heap.size w w3) := below_mono B.out hb
  clear hb
  go_wp2_with fail
  refine (rshift_any _ _ _ _ (k0 : Int) _ S5.out).mono ?_
  rw [Hsh.out]
  rintro e w4 ⟨A6, c6, rfl, hs6, hb⟩
  have S6 := Lib.hid hs6
  clear hs6 S5 Hsh
  replace F : Hid (Fw w4 (w.heap.size + 1)) := Fw.keep F.out R.out hb
  replace R : Hid (Cw w4 (w.heap.size + 1) false none 0 0) := Cw.keep R.out hb
  replace K : Hid (Cw w4 w.heap.size false A l.length c) := Cw.keep K.out hb
  replace S : Hid (Sl w4 A l c) := Sl.below S.out hb
  replace B : Hid (Below w.heap.size w w4) := below_mono B.out hb
  clear hb
  have hlen0 := Hlen0.out
  clear Hlen0
  generalize 2 ^ k0 = rn0 at *
  have hzr : w.heap.size + 1 < w4.heap.size := lt_of_cell R.out.1
  go_wp2
  generalize hg6 : w4.heap.size = g6 at *
  go_loopg [8, 9, 10, 11] rn0 (fun g _ _ _ _ wr => ∃ (rn : Nat) (A6 : Option Addr) (c6 : Nat), g = rn ∧ 0 < rn ∧ val l < (rn + 1) * (rn + 1) ∧ (limbs rn).length ≤ 3000 ∧ Cw wr g6 false A6 (limbs rn).length c6 ∧ Fw wr g6 ∧ Sl wr A6 (limbs rn) c6 ∧ Cw wr w.heap.size false A l.length c ∧ Sl wr A l c ∧ Cw wr (w.heap.size + 1) false none 0 0 ∧ Fw wr (w.heap.size + 1) ∧ Below w.heap.size w wr)
  case atStart => exact ⟨rn0, A6, c6, rfl, hpos0, Hab.out, hlen0, Cw.fresh hg6.symm _ _ _ _ _, Fw.fresh hg6.symm _ _, S6.out.alloc _, Cw.keep K.out (blw1 _ _), S.out.alloc _, Cw.keep R.out (blw1 _ _), Fw.alloc F.out R.out _, below_mono B.out (blw1 _ _)⟩
  case round =>
    clear S6 K S R F B hpos0 hlen0
    obtain ⟨rn, A6, c6, hgk, hpos, hab, hlen, k6, f6, s6, k, s, r, f, b⟩ := hrel
    have Hab2 := Lib.hid hab
    have K6 := Lib.hid k6
    have F6 := Lib.hid f6
    have S6 := Lib.hid s6
    have K := Lib.hid k
    have S := Lib.hid s
    have R := Lib.hid r
    have F := Lib.hid f
    have B := Lib.hid b
    have hne : limbs rn ≠ [] := fun h => by have h2 := limbs_eq_nil.1 h; omega
    have hl1 : 1 ≤ (limbs rn).length := limbs_len_pos.2 hpos
    have hdiv := over_any A A6 l (limbs rn) c c6 wr S.out S6.out Hk1.out (canon_limbs _) hne (by omega)
    clear hab k6 f6 s6 k s r f b hne
    rw [val_limbs] at hdiv
    have hql : (limbs (val l / rn)).length ≤ 4096 := Nat.le_trans (canon_len_le (canon_limbs _) Hk1.out (by rw [val_limbs]; exact Nat.div_le_self _ _)) m1
    have Hnab := Lib.hid (newton_above (a := val l) hpos)
    have Hnpos := Lib.hid (newton_pos (a := val l) hav hpos)
    have Hnend : Hid (rn ≤ (val l / rn + rn) / 2 → isq (val l) = rn) := fun h => newton_end hpos Hab2.out h
    have Hvq := Lib.hid (val_limbs (val l / rn))
    have Hvr := Lib.hid (val_limbs rn)
    obtain ⟨q0, q1⟩ := K.out
    obtain ⟨q2, q3⟩ := K6.out
    have hz6 : g6 < wr.heap.size := lt_of_cell (a := ⟨g6, 0, none⟩) K6.out.1
    go_wp2_with fail
    refine hdiv.mono ?_
    rintro e w5 ⟨A7, c7, A8, c8, rfl, hs7, hs8, hb⟩
    clear q0 q1 q2 q3
    have S7 := Lib.hid hs7
    clear hs7 hs8 hdiv
    replace F6 : Hid (Fw w5 g6) := Fw.keep F6.out K6.out hb
    replace K6 : Hid (Cw w5 g6 false A6 (limbs rn).length c6) := Cw.keep K6.out hb
    replace S6 : Hid (Sl w5 A6 (limbs rn) c6) := Sl.below S6.out hb
    replace F : Hid (Fw w5 (w.heap.size + 1)) := Fw.keep F.out R.out hb
    replace R : Hid (Cw w5 (w.heap.size + 1) false none 0 0) := Cw.keep R.out hb
    replace K : Hid (Cw w5 w.heap.size false A l.length c) := Cw.keep K.out hb
    replace S : Hid (Sl w5 A l c) := Sl.below S.out hb
    replace B : Hid (Below w.heap.size w w5) := below_mono B.out hb
    clear hb
    replace hz6 : g6 < w5.heap.size := lt_of_cell (a := ⟨g6, 0, none⟩) K6.out.1
    generalize limbs (val l / rn) = lq at *
    obtain ⟨q0, q1⟩ := K.out
    obtain ⟨q2, q3⟩ := K6.out
    go_wp2_with fail
    refine (rplus_eq A7 A6 lq (limbs rn) c7 c6 w5 S7.out S6.out (by omega) (by omega)).mono ?_
    rintro e w6 ⟨A9, c9, x9, rfl, hs9, hv9, hn9, hb⟩
    clear q0 q1 q2 q3
    have S9 := Lib.hid hs9
    have V9 : Hid (val x9 = val l / rn + rn) := by unfold Hid; rw [hv9, Hvq.out, Hvr.out]
    have hn9' : x9.length ≤ 100000 := by omega
    have hn9'' : 2 ≤ x9.length := by omega
    clear hs9 hv9 hn9
    replace F6 : Hid (Fw w6 g6) := Fw.keep F6.out K6.out hb
    replace K6 : Hid (Cw w6 g6 false A6 (limbs rn).length c6) := Cw.keep K6.out hb
    replace S6 : Hid (Sl w6 A6 (limbs rn) c6) := Sl.below S6.out hb
    replace F : Hid (Fw w6 (w.heap.size + 1)) := Fw.keep F.out R.out hb
    replace R : Hid (Cw w6 (w.heap.size + 1) false none 0 0) := Cw.keep R.out hb
    replace K : Hid (Cw w6 w.heap.size false A l.length c) := Cw.keep K.out hb
    replace S : Hid (Sl w6 A l c) := Sl.below S.out hb
    replace B : Hid (Below w.heap.size w w6) := below_mono B.out hb
    clear hb
    replace hz6 : g6 < w6.heap.size := lt_of_cell (a := ⟨g6, 0, none⟩) K6.out.1
    go_wp2_with fail
    refine (over_two A9 (some ⟨w6.heap.size, 0, none⟩) x9 2 c9 1 _ (S9.out.alloc _) ⟨Rd.one _ _ _, lim_one (by omega), Nat.le_refl _, by simp⟩ hn9'' (by omega) hn9').mono ?_
    rw [V9.out, show val [2] = 2 from rfl]
    rintro e w7 ⟨A10, c10, A11, c11, rfl, hs10, hs11, hb⟩
    have S10 := Lib.hid hs10
    clear hs10 hs11 hn9' hn9'' S7 S9 V9
    replace F6 : Hid (Fw w7 g6) := Fw.keep (Fw.alloc F6.out K6.out _) (Cw.keep K6.out (blw1 _ _)) hb
    replace K6 : Hid (Cw w7 g6 false A6 (limbs rn).length c6) := Cw.keep (Cw.keep K6.out (blw1 _ _)) hb
    replace S6 : Hid (Sl w7 A6 (limbs rn) c6) := Sl.below (S6.out.alloc _) hb
    replace F : Hid (Fw w7 (w.heap.size + 1)) := Fw.keep (Fw.alloc F.out R.out _) (Cw.keep R.out (blw1 _ _)) hb
    replace R : Hid (Cw w7 (w.heap.size + 1) false none 0 0) := Cw.keep (Cw.keep R.out (blw1 _ _)) hb
    replace K : Hid (Cw w7 w.heap.size false A l.length c) := Cw.keep (Cw.keep K.out (blw1 _ _)) hb
    replace S : Hid (Sl w7 A l c) := Sl.below (S.out.alloc _) hb
    replace B : Hid (Below w.heap.size w w7) := below_mono (below_mono B.out (blw1 _ _)) hb
    clear hb
    replace hz6 : g6 < w7.heap.size := lt_of_cell (a := ⟨g6, 0, none⟩) K6.out.1
    generalize (val l / rn + rn) / 2 = nx at *
    obtain ⟨q0, q1⟩ := K.out
    obtain ⟨q2, q3⟩ := K6.out
    go_wp2_with fail
    refine (rcompare_any A10 A6 (limbs nx) (limbs rn) c10 c6 w7 S10.out S6.out).mono ?_
    rintro e w8 ⟨rfl, nd, rfl⟩
    clear q0 q1 q2 q3
    have hb : Below w7.heap.size w7 (w7.drewN nd) := below_drewN (Below.refl _ _) _
    generalize w7.drewN nd = w8 at *
    replace S10 : Hid (Sl w8 A10 (limbs nx) c10) := S10.out.below hb
    replace F6 : Hid (Fw w8 g6) := Fw.keep F6.out K6.out hb
    replace K6 : Hid (Cw w8 g6 false A6 (limbs rn).length c6) := Cw.keep K6.out hb
    replace S6 : Hid (Sl w8 A6 (limbs rn) c6) := Sl.below S6.out hb
    replace F : Hid (Fw w8 (w.heap.size + 1)) := Fw.keep F.out R.out hb
    replace R : Hid (Cw w8 (w.heap.size + 1) false none 0 0) := Cw.keep R.out hb
    replace K : Hid (Cw w8 w.heap.size false A l.length c) := Cw.keep K.out hb
    replace S : Hid (Sl w8 A l c) := Sl.below S.out hb
    replace B : Hid (Below w.heap.size w w8) := below_mono B.out hb
    clear hb
    replace hz6 : g6 < w8.heap.size := lt_of_cell (a := ⟨g6, 0, none⟩) K6.out.1
    by_cases hge : rn ≤ nx
    · have hcmp : 0 ≤ cmpL (limbs nx) (limbs rn) := cmpL_ge (canon_limbs _) (canon_limbs _) (by rw [val_limbs, val_limbs]; exact hge)
      have Hroot : Hid (outN false (isq (val l)) = ((false, limbs rn), 0)) := by
        unfold Hid outN
        rw [Hnend.out hge, if_pos (by omega), Bool.false_and]
      generalize cmpL (limbs nx) (limbs rn) = zc at *
      obtain ⟨q2, q3⟩ := K6.out
      obtain ⟨f0, f1⟩ := F.out
      obtain ⟨r0, r1⟩ := R.out
      have hzr : w.heap.size + 1 < w8.heap.size := lt_of_cell R.out.1
      go_wp2
      exact bodyPost_ret (v := .tuple #[.agg #[.bool false, .slice A6 (limbs rn).length c6], .int .i64 0]) (by simp [results, Try.results40, go_sem, r0, r1]) rfl (by rw [Hroot.out]; exact wres_store (r := ((false, limbs rn), 0)) S6.out ⟨r0, r1⟩ B.out (by omega) _ _)
    · have Hcmp := Lib.hid (cmpL_lt (canon_limbs nx) (canon_limbs rn) (by rw [val_limbs, val_limbs]; omega))
      have hlen2 : (limbs nx).length ≤ 3000 := Nat.le_trans (canon_len_le (canon_limbs _) (canon_limbs rn) (by rw [val_limbs, val_limbs]; omega)) hlen
      have Hmd : Hid (outN false (val (limbs nx)) = ((false, limbs nx), 0)) := by
        unfold Hid outN
        rw [val_limbs, if_pos (by omega), Bool.false_and]
      rw [Hcmp.out]
      go_wp2_with fail
      refine (rmade_any false A10 (limbs nx) c10 _ S10.out).mono ?_
      rw [Hmd.out]
      rintro e w9 ⟨A12, c12, rfl, hs12, hb⟩
      have S12 := Lib.hid hs12
      clear hs12
      replace F6 : Hid (Fw w9 g6) := Fw.keep F6.out K6.out hb
      replace K6 : Hid (Cw w9 g6 false A6 (limbs rn).length c6) := Cw.keep K6.out hb
      replace S6 : Hid (Sl w9 A6 (limbs rn) c6) := Sl.below S6.out hb
      replace F : Hid (Fw w9 (w.heap.size + 1)) := Fw.keep F.out R.out hb
      replace R : Hid (Cw w9 (w.heap.size + 1) false none 0 0) := Cw.keep R.out hb
      replace K : Hid (Cw w9 w.heap.size false A l.length c) := Cw.keep K.out hb
      replace S : Hid (Sl w9 A l c) := Sl.below S.out hb
      replace B : Hid (Below w.heap.size w w9) := below_mono B.out hb
      clear hb
      replace hz6 : g6 < w9.heap.size := lt_of_cell (a := ⟨g6, 0, none⟩) K6.out.1
      have hzr : w.heap.size + 1 < w9.heap.size := lt_of_cell R.out.1
      obtain ⟨q2, q3⟩ := K6.out
      obtain ⟨f0, f1⟩ := F6.out
      go_wp2
      go_roundg nx
      case measure => omega
      case rel => exact ⟨nx, A12, c12, rfl, Hnpos.out, Hnab.out, hlen2, Cw.new K6.out, Fw.setW F6.out _ _, S12.out.setW K6.out.1 K6.out.2 _ _, K.out.setW (by omega) _ _, S.out.setW K6.out.1 K6.out.2 _ _, R.out.setW (by omega) _ _, Fw.setW F.out _ _, below_setW B.out (by omega) _ _⟩

set_option maxRecDepth 100000 in
set_option maxHeartbeats 2000000 in
theorem rsqrt_zero (A : Option Addr) (l : List Nat) (c : Nat) (w : World) (hs : Sl w A l c) (hbad : badL false l = false) (hl0 : l.length = 0) :
    Calls Try.prog 40 #[.agg #[.bool false, .slice A l.length c]] w (WRes (sqrtS false l) w) := by
  obtain rfl := List.eq_nil_of_length_eq_zero hl0
  have Hs := Lib.hid hs
  have hc := chk_good hbad
  have Hres : Hid (sqrtS false [] = ((false, []), 0)) := by unfold Hid sqrtS; rw [hbad, if_neg (by simp), if_neg (by simp)]; rfl
  rw [Hres.out]
  clear hs hbad Hres hl0
  go_enter Try.func40, Try.ntmps40
  go_wp2_with fail
  refine (rcheck_any false A [] c _ ((Hs.out.alloc _).alloc _)).mono ?_
  rintro e w1 ⟨rfl, hb⟩
  have K : Hid (Cw w1 w.heap.size false A 0 c) := ⟨kept_cell hb (by go_simp), kept_cell hb (by go_simp)⟩
  have R : Hid (Cw w1 (w.heap.size + 1) false none 0 0) := ⟨kept_cell hb (by go_simp), kept_cell hb (by go_simp)⟩
  have F : Hid (Fw w1 (w.heap.size + 1)) := ⟨(hb.frozen (by simp)).trans (by go_simp), (hb.frozen (by simp)).trans (by go_simp)⟩
  have B : Hid (Below w.heap.size w w1) := below_mono (blw2 _ _ _) hb
  have S : Hid (Sl w1 A [] c) := ((Hs.out.alloc _).alloc _).below hb
  clear hb
  obtain ⟨q0, q1⟩ := K.out
  obtain ⟨f0, f1⟩ := F.out
  obtain ⟨r0, r1⟩ := R.out
  have hzr : w.heap.size + 1 < w1.heap.size := lt_of_cell R.out.1
  go_wp2
  exact bodyPost_ret (v := .tuple #[.agg #[.bool false, .slice A 0 c], .int .i64 0]) (by simp [results, Try.results40, go_sem, r0, r1]) rfl (wres_store (r := ((false, []), 0)) (Sl.nil _ A c) ⟨r0, r1⟩ B.out (by omega) _ _)

set_option maxRecDepth 100000 in
set_option maxHeartbeats 2000000 in
theorem rsqrt_any (n : Bool) (A : Option Addr) (l : List Nat) (c : Nat) (w : World) (hs : Sl w A l c) :
    Calls Try.prog 40 #[.agg #[.bool n, .slice A l.length c]] w (WRes (sqrtS n l) w) := by
  cases hbad : badL n l with
  | false =>
    cases n with
    | false =>
      by_cases hl0 : 0 < l.length
      · exact rsqrt_pos A l c w hs hbad hl0
      · exact rsqrt_zero A l c w hs hbad (by omega)
    | true =>
      have Hs := Lib.hid hs
      have hr : sqrtS true l = ((false, []), 2) := by unfold sqrtS; rw [hbad, if_neg (by simp), if_pos rfl]
      have hc := chk_good hbad
      rw [hr]
      clear hr hbad hs
      go_enter Try.func40, Try.ntmps40
      go_wp2_with fail
      refine (rcheck_any true A l c _ ((Hs.out.alloc _).alloc _)).mono ?_
      rintro e w1 ⟨rfl, hb⟩
      have K : Hid (Cw w1 w.heap.size true A l.length c) := ⟨kept_cell hb (by go_simp), kept_cell hb (by go_simp)⟩
      have R : Hid (Cw w1 (w.heap.size + 1) false none 0 0) := ⟨kept_cell hb (by go_simp), kept_cell hb (by go_simp)⟩
      have F : Hid (Fw w1 (w.heap.size + 1)) := ⟨(hb.frozen (by simp)).trans (by go_simp), (hb.frozen (by simp)).trans (by go_simp)⟩
      have B : Hid (Below w.heap.size w w1) := below_mono (blw2 _ _ _) hb
      have S : Hid (Sl w1 A l c) := ((Hs.out.alloc _).alloc _).below hb
      clear hb
      obtain ⟨q0, q1⟩ := K.out
      obtain ⟨f0, f1⟩ := F.out
      obtain ⟨r0, r1⟩ := R.out
      go_wp2
      exact bodyPost_ret (v := .tuple #[.agg #[.bool false, .slice none 0 0], .int .i64 2]) (by simp [results, Try.results40, go_sem, r0, r1]) rfl (wres_store (r := ((false, []), 2)) (Sl.nil _ none 0) ⟨r0, r1⟩ B.out (by omega) _ _)
  | true =>
    have Hs := Lib.hid hs
    have hr : sqrtS n l = ((false, []), 8) := by unfold sqrtS; rw [hbad, if_pos rfl]
    have hc := chk_bad hbad
    rw [hr]
    clear hr hbad hs
    go_enter Try.func40, Try.ntmps40
    go_wp2_with fail
    refine (rcheck_any n A l c _ ((Hs.out.alloc _).alloc _)).mono ?_
    rintro e w1 ⟨rfl, hb⟩
    have K : Hid (Cw w1 w.heap.size n A l.length c) := ⟨kept_cell hb (by go_simp), kept_cell hb (by go_simp)⟩
    have R : Hid (Cw w1 (w.heap.size + 1) false none 0 0) := ⟨kept_cell hb (by go_simp), kept_cell hb (by go_simp)⟩
    have F : Hid (Fw w1 (w.heap.size + 1)) := ⟨(hb.frozen (by simp)).trans (by go_simp), (hb.frozen (by simp)).trans (by go_simp)⟩
    have B : Hid (Below w.heap.size w w1) := below_mono (blw2 _ _ _) hb
    have S : Hid (Sl w1 A l c) := ((Hs.out.alloc _).alloc _).below hb
    clear hb
    obtain ⟨q0, q1⟩ := K.out
    go_wp2_with fail
    refine (rcheck_any n A l c _ S.out).mono ?_
    rintro e w2 ⟨rfl, hb⟩
    clear q0 q1
    replace F : Hid (Fw w2 (w.heap.size + 1)) := Fw.keep F.out R.out hb
    replace R : Hid (Cw w2 (w.heap.size + 1) false none 0 0) := R.out.keep hb
    replace B : Hid (Below w.heap.size w w2) := below_mono B.out hb
    clear hb
    obtain ⟨f0, f1⟩ := F.out
    obtain ⟨r0, r1⟩ := R.out
    go_wp2
    exact bodyPost_ret (v := .tuple #[.agg #[.bool false, .slice none 0 0], .int .i64 8]) (by simp [results, Try.results40, go_sem, r0, r1]) rfl (wres_store (r := ((false, []), 8)) (Sl.nil _ none 0) ⟨r0, r1⟩ B.out (by omega) _ _)
end Go.Proofs.Ytejapkdhbpngbaa

/- The walk of the law FracReckons. -/
import Derived.Test.YthlfidbhldbedaaFMakes
import Derived.Test.YthlfidbhldbedaaF9
import Derived.Test.YthlfidbhldbedaaF10
import Derived.Test.YthlfidbhldbedaaF13
import Derived.Deep.CutRange
namespace Go.Proofs.Ythlfidbhldbedaa
open Go.RowKit
attribute [local go_sem ↓] Go.wp_at_zero Go.wp_at_succ
set_option maxRecDepth 100000 in
set_option maxHeartbeats 8000000 in
theorem fracReckons_walk (na nb nc nd : Bool) (Aa Ab Ac Ad : Option Addr) (la lb lc ld : List Nat) (ca cb cc cd : Nat) (w : World) (hsa : Sl w Aa la ca) (hsb : Sl w Ab lb cb) (hsc : Sl w Ac lc cc) (hsd : Sl w Ad ld cd) :
    Calls Try.prog 4 #[.agg #[.bool na, .slice Aa la.length ca, .bool nb, .slice Ab lb.length cb], .agg #[.bool nc, .slice Ac lc.length cc, .bool nd, .slice Ad ld.length cd]] w fun e w' => e = .returned (.bool true) ∧ Below w.heap.size w w' := by
  have Sa1 := Lib.hid hsa
  have Sa2 := Lib.hid hsb
  have Sb1 := Lib.hid hsc
  have Sb2 := Lib.hid hsd
  have Oa : Hid (TF na la nb lb w ⟨na, Aa, la.length, ca, nb, Ab, lb.length, cb⟩) := ⟨rfl, rfl, rfl, rfl, hsa, hsb⟩
  have Ob : Hid (TF nc lc nd ld w ⟨nc, Ac, lc.length, cc, nd, Ad, ld.length, cd⟩) := ⟨rfl, rfl, rfl, rfl, hsc, hsd⟩
  have B : Hid (Below w.heap.size w w) := Below.refl _ _
  clear hsa hsb hsc hsd
  cases h1 : greatF la lb with
  | true =>
    have G1 := Lib.hid h1
    clear h1
    go_enter Try.func4, Try.ntmps4
    go_wp2_with fail
    refine (fgreat_any na nb Aa Ab la lb ca cb _).mono ?_
    rw [G1.out]
    rintro e w1 ⟨rfl, hb⟩
    have Ka' : Hid (Cf w1 w.heap.size na Aa la.length ca nb Ab lb.length cb) := Cf.keep (Cf.keep (Cf.fresh (by simp) _ _ _ _ _ _ _ _ _) (blw1 _ _)) hb
    have Kb' : Hid (Cf w1 (w.heap.size + 1) nc Ac lc.length cc nd Ad ld.length cd) := Cf.keep (Cf.fresh (by simp) _ _ _ _ _ _ _ _ _) hb
    have Sa1' : Hid (Sl w1 Aa la ca) := Sl.below ((Sa1.out.alloc _).alloc _) hb
    have Sa2' : Hid (Sl w1 Ab lb cb) := Sl.below ((Sa2.out.alloc _).alloc _) hb
    have Sb1' : Hid (Sl w1 Ac lc cc) := Sl.below ((Sb1.out.alloc _).alloc _) hb
    have Sb2' : Hid (Sl w1 Ad ld cd) := Sl.below ((Sb2.out.alloc _).alloc _) hb
    have B' : Hid (Below w.heap.size w w1) := below_mono (below_mono (below_mono B.out (blw1 _ _)) (blw1 _ _)) hb
    clear hb Sa1 Sa2 Sb1 Sb2 B
    have Ka := Ka'
    have Kb := Kb'
    have Sa1 := Sa1'
    have Sa2 := Sa2'
    have Sb1 := Sb1'
    have Sb2 := Sb2'
    have B := B'
    clear Ka' Kb' Sa1' Sa2' Sb1' Sb2' B'
    obtain ⟨qa0, qa1, qa2, qa3⟩ := Ka.out
    obtain ⟨qb0, qb1, qb2, qb3⟩ := Kb.out
    have hza : w.heap.size < w1.heap.size := lt_of_cell (a := ⟨w.heap.size, 0, none⟩) Ka.out.1
    have hzb : w.heap.size + 1 < w1.heap.size := lt_of_cell (a := ⟨w.heap.size + 1, 0, none⟩) Kb.out.1
    go_wp2
    go_ret
    exact ⟨rfl, B.out⟩
  | false =>
    have G1 := Lib.hid h1
    clear h1
    cases h2 : greatF lc ld with
    | true =>
      have G2 := Lib.hid h2
      clear h2
      go_enter Try.func4, Try.ntmps4
      go_wp2_with fail
      refine (fgreat_any na nb Aa Ab la lb ca cb _).mono ?_
      rw [G1.out]
      rintro e w1 ⟨rfl, hb⟩
      have Ka' : Hid (Cf w1 w.heap.size na Aa la.length ca nb Ab lb.length cb) := Cf.keep (Cf.keep (Cf.fresh (by simp) _ _ _ _ _ _ _ _ _) (blw1 _ _)) hb
      have Kb' : Hid (Cf w1 (w.heap.size + 1) nc Ac lc.length cc nd Ad ld.length cd) := Cf.keep (Cf.fresh (by simp) _ _ _ _ _ _ _ _ _) hb
      have Sa1' : Hid (Sl w1 Aa la ca) := Sl.below ((Sa1.out.alloc _).alloc _) hb
      have Sa2' : Hid (Sl w1 Ab lb cb) := Sl.below ((Sa2.out.alloc _).alloc _) hb
      have Sb1' : Hid (Sl w1 Ac lc cc) := Sl.below ((Sb1.out.alloc _).alloc _) hb
      have Sb2' : Hid (Sl w1 Ad ld cd) := Sl.below ((Sb2.out.alloc _).alloc _) hb
      have B' : Hid (Below w.heap.size w w1) := below_mono (below_mono (below_mono B.out (blw1 _ _)) (blw1 _ _)) hb
      clear hb Sa1 Sa2 Sb1 Sb2 B
      have Ka := Ka'
      have Kb := Kb'
      have Sa1 := Sa1'
      have Sa2 := Sa2'
      have Sb1 := Sb1'
      have Sb2 := Sb2'
      have B := B'
      clear Ka' Kb' Sa1' Sa2' Sb1' Sb2' B'
      obtain ⟨qa0, qa1, qa2, qa3⟩ := Ka.out
      obtain ⟨qb0, qb1, qb2, qb3⟩ := Kb.out
      have hza : w.heap.size < w1.heap.size := lt_of_cell (a := ⟨w.heap.size, 0, none⟩) Ka.out.1
      have hzb : w.heap.size + 1 < w1.heap.size := lt_of_cell (a := ⟨w.heap.size + 1, 0, none⟩) Kb.out.1
      go_wp2_with fail
      refine (fgreat_any nc nd Ac Ad lc ld cc cd _).mono ?_
      rw [G2.out]
      rintro e w2 ⟨rfl, hb⟩
      clear qa0 qa1 qa2 qa3 qb0 qb1 qb2 qb3
      have Ka' : Hid (Cf w2 w.heap.size na Aa la.length ca nb Ab lb.length cb) := Cf.keep Ka.out hb
      have Kb' : Hid (Cf w2 (w.heap.size + 1) nc Ac lc.length cc nd Ad ld.length cd) := Cf.keep Kb.out hb
      have Sa1' : Hid (Sl w2 Aa la ca) := Sl.below Sa1.out hb
      have Sa2' : Hid (Sl w2 Ab lb cb) := Sl.below Sa2.out hb
      have Sb1' : Hid (Sl w2 Ac lc cc) := Sl.below Sb1.out hb
      have Sb2' : Hid (Sl w2 Ad ld cd) := Sl.below Sb2.out hb
      have B' : Hid (Below w.heap.size w w2) := below_mono B.out hb
      clear hb Ka Kb Sa1 Sa2 Sb1 Sb2 B
      have Ka := Ka'
      have Kb := Kb'
      have Sa1 := Sa1'
      have Sa2 := Sa2'
      have Sb1 := Sb1'
      have Sb2 := Sb2'
      have B := B'
      clear Ka' Kb' Sa1' Sa2' Sb1' Sb2' B'
      obtain ⟨qa0, qa1, qa2, qa3⟩ := Ka.out
      obtain ⟨qb0, qb1, qb2, qb3⟩ := Kb.out
      replace hza : w.heap.size < w2.heap.size := lt_of_cell (a := ⟨w.heap.size, 0, none⟩) Ka.out.1
      replace hzb : w.heap.size + 1 < w2.heap.size := lt_of_cell (a := ⟨w.heap.size + 1, 0, none⟩) Kb.out.1
      go_wp2
      go_ret
      exact ⟨rfl, B.out⟩
    | false =>
      have G2 := Lib.hid h2
      clear h2
      obtain ⟨⟨⟨⟨ns, ls⟩, ⟨ms, js⟩⟩, ks⟩, hs⟩ : ∃ r, bothF na la nb lb nc lc nd ld addV = r := ⟨_, rfl⟩
      have Ps : Hid (∀ (W : World) (A1 A2 A3 A4 : Option Addr) (c1 c2 c3 c4 : Nat), Sl W A1 la c1 → Sl W A2 lb c2 → Sl W A3 lc c3 → Sl W A4 ld c4 → Calls Try.prog 14 #[.agg #[.bool na, .slice A1 la.length c1, .bool nb, .slice A2 lb.length c2], .agg #[.bool nc, .slice A3 lc.length c3, .bool nd, .slice A4 ld.length c4]] W (FRes (((ns, ls), (ms, js)), ks) W)) := fun W A1 A2 A3 A4 c1 c2 c3 c4 s1 s2 s3 s4 => by rw [← hs]; exact fadd_any na nb nc nd A1 A2 A3 A4 la lb lc ld c1 c2 c3 c4 W s1 s2 s3 s4
      have Rs : Hid (∀ (W : World) (A1 A2 A3 A4 : Option Addr) (c1 c2 c3 c4 : Nat), Sl W A1 la c1 → Sl W A2 lb c2 → Sl W A3 lc c3 → Sl W A4 ld c4 → Calls Try.prog 15 #[.agg #[.bool na, .slice A1 la.length c1, .bool nb, .slice A2 lb.length c2], .agg #[.bool nc, .slice A3 lc.length c3, .bool nd, .slice A4 ld.length c4]] W (FRes (((ns, ls), (ms, js)), ks) W)) := fun W A1 A2 A3 A4 c1 c2 c3 c4 s1 s2 s3 s4 => by rw [← hs]; exact raddF_any na nb nc nd A1 A2 A3 A4 la lb lc ld c1 c2 c3 c4 W s1 s2 s3 s4
      obtain ⟨⟨⟨⟨ni, li⟩, ⟨mi, ji⟩⟩, ki⟩, hi⟩ : ∃ r, bothF na la nb lb nc lc nd ld subV = r := ⟨_, rfl⟩
      have Pi : Hid (∀ (W : World) (A1 A2 A3 A4 : Option Addr) (c1 c2 c3 c4 : Nat), Sl W A1 la c1 → Sl W A2 lb c2 → Sl W A3 lc c3 → Sl W A4 ld c4 → Calls Try.prog 16 #[.agg #[.bool na, .slice A1 la.length c1, .bool nb, .slice A2 lb.length c2], .agg #[.bool nc, .slice A3 lc.length c3, .bool nd, .slice A4 ld.length c4]] W (FRes (((ni, li), (mi, ji)), ki) W)) := fun W A1 A2 A3 A4 c1 c2 c3 c4 s1 s2 s3 s4 => by rw [← hi]; exact fsub_any na nb nc nd A1 A2 A3 A4 la lb lc ld c1 c2 c3 c4 W s1 s2 s3 s4
      have Ri : Hid (∀ (W : World) (A1 A2 A3 A4 : Option Addr) (c1 c2 c3 c4 : Nat), Sl W A1 la c1 → Sl W A2 lb c2 → Sl W A3 lc c3 → Sl W A4 ld c4 → Calls Try.prog 17 #[.agg #[.bool na, .slice A1 la.length c1, .bool nb, .slice A2 lb.length c2], .agg #[.bool nc, .slice A3 lc.length c3, .bool nd, .slice A4 ld.length c4]] W (FRes (((ni, li), (mi, ji)), ki) W)) := fun W A1 A2 A3 A4 c1 c2 c3 c4 s1 s2 s3 s4 => by rw [← hi]; exact rsubF_any na nb nc nd A1 A2 A3 A4 la lb lc ld c1 c2 c3 c4 W s1 s2 s3 s4
      obtain ⟨⟨⟨⟨np, lp⟩, ⟨mp, jp⟩⟩, kp⟩, hp⟩ : ∃ r, bothF na la nb lb nc lc nd ld mulV = r := ⟨_, rfl⟩
      have Pp : Hid (∀ (W : World) (A1 A2 A3 A4 : Option Addr) (c1 c2 c3 c4 : Nat), Sl W A1 la c1 → Sl W A2 lb c2 → Sl W A3 lc c3 → Sl W A4 ld c4 → Calls Try.prog 18 #[.agg #[.bool na, .slice A1 la.length c1, .bool nb, .slice A2 lb.length c2], .agg #[.bool nc, .slice A3 lc.length c3, .bool nd, .slice A4 ld.length c4]] W (FRes (((np, lp), (mp, jp)), kp) W)) := fun W A1 A2 A3 A4 c1 c2 c3 c4 s1 s2 s3 s4 => by rw [← hp]; exact fmul_any na nb nc nd A1 A2 A3 A4 la lb lc ld c1 c2 c3 c4 W s1 s2 s3 s4
      have Rp : Hid (∀ (W : World) (A1 A2 A3 A4 : Option Addr) (c1 c2 c3 c4 : Nat), Sl W A1 la c1 → Sl W A2 lb c2 → Sl W A3 lc c3 → Sl W A4 ld c4 → Calls Try.prog 19 #[.agg #[.bool na, .slice A1 la.length c1, .bool nb, .slice A2 lb.length c2], .agg #[.bool nc, .slice A3 lc.length c3, .bool nd, .slice A4 ld.length c4]] W (FRes (((np, lp), (mp, jp)), kp) W)) := fun W A1 A2 A3 A4 c1 c2 c3 c4 s1 s2 s3 s4 => by rw [← hp]; exact rmulF_any na nb nc nd A1 A2 A3 A4 la lb lc ld c1 c2 c3 c4 W s1 s2 s3 s4
      obtain ⟨⟨⟨⟨nr, lr⟩, ⟨mr, jr⟩⟩, kr⟩, hr⟩ : ∃ r, bothF na la nb lb nc lc nd ld divV = r := ⟨_, rfl⟩
      have Pr : Hid (∀ (W : World) (A1 A2 A3 A4 : Option Addr) (c1 c2 c3 c4 : Nat), Sl W A1 la c1 → Sl W A2 lb c2 → Sl W A3 lc c3 → Sl W A4 ld c4 → Calls Try.prog 20 #[.agg #[.bool na, .slice A1 la.length c1, .bool nb, .slice A2 lb.length c2], .agg #[.bool nc, .slice A3 lc.length c3, .bool nd, .slice A4 ld.length c4]] W (FRes (((nr, lr), (mr, jr)), kr) W)) := fun W A1 A2 A3 A4 c1 c2 c3 c4 s1 s2 s3 s4 => by rw [← hr]; exact fdiv_any na nb nc nd A1 A2 A3 A4 la lb lc ld c1 c2 c3 c4 W s1 s2 s3 s4
      have Rr : Hid (∀ (W : World) (A1 A2 A3 A4 : Option Addr) (c1 c2 c3 c4 : Nat), Sl W A1 la c1 → Sl W A2 lb c2 → Sl W A3 lc c3 → Sl W A4 ld c4 → Calls Try.prog 21 #[.agg #[.bool na, .slice A1 la.length c1, .bool nb, .slice A2 lb.length c2], .agg #[.bool nc, .slice A3 lc.length c3, .bool nd, .slice A4 ld.length c4]] W (FRes (((nr, lr), (mr, jr)), kr) W)) := fun W A1 A2 A3 A4 c1 c2 c3 c4 s1 s2 s3 s4 => by rw [← hr]; exact rdivF_any na nb nc nd A1 A2 A3 A4 la lb lc ld c1 c2 c3 c4 W s1 s2 s3 s4
      obtain ⟨⟨⟨⟨nn, ln⟩, ⟨mn, jn⟩⟩, kn⟩, hn⟩ : ∃ r, negF na la nb lb = r := ⟨_, rfl⟩
      have Pn : Hid (∀ (W : World) (A1 A2 : Option Addr) (c1 c2 : Nat), Sl W A1 la c1 → Sl W A2 lb c2 → Calls Try.prog 22 #[.agg #[.bool na, .slice A1 la.length c1, .bool nb, .slice A2 lb.length c2]] W (FRes (((nn, ln), (mn, jn)), kn) W)) := fun W A1 A2 c1 c2 s1 s2 => by rw [← hn]; exact fneg_any na nb A1 A2 la lb c1 c2 W s1 s2
      have Rn : Hid (∀ (W : World) (A1 A2 : Option Addr) (c1 c2 : Nat), Sl W A1 la c1 → Sl W A2 lb c2 → Calls Try.prog 23 #[.agg #[.bool na, .slice A1 la.length c1, .bool nb, .slice A2 lb.length c2]] W (FRes (((nn, ln), (mn, jn)), kn) W)) := fun W A1 A2 c1 c2 s1 s2 => by rw [← hn]; exact rnegF_any na nb A1 A2 la lb c1 c2 W s1 s2
      obtain ⟨⟨kz, ke⟩, hz⟩ : ∃ r, cmpF na la nb lb nc lc nd ld = r := ⟨_, rfl⟩
      have Pz : Hid (∀ (W : World) (A1 A2 A3 A4 : Option Addr) (c1 c2 c3 c4 : Nat), Sl W A1 la c1 → Sl W A2 lb c2 → Sl W A3 lc c3 → Sl W A4 ld c4 → Calls Try.prog 24 #[.agg #[.bool na, .slice A1 la.length c1, .bool nb, .slice A2 lb.length c2], .agg #[.bool nc, .slice A3 lc.length c3, .bool nd, .slice A4 ld.length c4]] W (IRes kz ke W)) := fun W A1 A2 A3 A4 c1 c2 c3 c4 s1 s2 s3 s4 => by have h := fcmp_any na nb nc nd A1 A2 A3 A4 la lb lc ld c1 c2 c3 c4 W s1 s2 s3 s4; rw [hz] at h; exact h
      have Rz : Hid (∀ (W : World) (A1 A2 A3 A4 : Option Addr) (c1 c2 c3 c4 : Nat), Sl W A1 la c1 → Sl W A2 lb c2 → Sl W A3 lc c3 → Sl W A4 ld c4 → Calls Try.prog 25 #[.agg #[.bool na, .slice A1 la.length c1, .bool nb, .slice A2 lb.length c2], .agg #[.bool nc, .slice A3 lc.length c3, .bool nd, .slice A4 ld.length c4]] W (IRes kz ke W)) := fun W A1 A2 A3 A4 c1 c2 c3 c4 s1 s2 s3 s4 => by have h := rcmpF_any na nb nc nd A1 A2 A3 A4 la lb lc ld c1 c2 c3 c4 W s1 s2 s3 s4; rw [hz] at h; exact h
      clear hs hi hp hr hn hz
      go_enter Try.func4, Try.ntmps4
      go_wp2_with fail
      refine (fgreat_any na nb Aa Ab la lb ca cb _).mono ?_
      rw [G1.out]
      rintro e w1 ⟨rfl, hb⟩
      have Ka' : Hid (Cf w1 w.heap.size na Aa la.length ca nb Ab lb.length cb) := Cf.keep (Cf.keep (Cf.fresh (by simp) _ _ _ _ _ _ _ _ _) (blw1 _ _)) hb
      have Kb' : Hid (Cf w1 (w.heap.size + 1) nc Ac lc.length cc nd Ad ld.length cd) := Cf.keep (Cf.fresh (by simp) _ _ _ _ _ _ _ _ _) hb
      have Sa1' : Hid (Sl w1 Aa la ca) := Sl.below ((Sa1.out.alloc _).alloc _) hb
      have Sa2' : Hid (Sl w1 Ab lb cb) := Sl.below ((Sa2.out.alloc _).alloc _) hb
      have Sb1' : Hid (Sl w1 Ac lc cc) := Sl.below ((Sb1.out.alloc _).alloc _) hb
      have Sb2' : Hid (Sl w1 Ad ld cd) := Sl.below ((Sb2.out.alloc _).alloc _) hb
      have B' : Hid (Below w.heap.size w w1) := below_mono (below_mono (below_mono B.out (blw1 _ _)) (blw1 _ _)) hb
      clear hb Sa1 Sa2 Sb1 Sb2 B
      have Ka := Ka'
      have Kb := Kb'
      have Sa1 := Sa1'
      have Sa2 := Sa2'
      have Sb1 := Sb1'
      have Sb2 := Sb2'
      have B := B'
      clear Ka' Kb' Sa1' Sa2' Sb1' Sb2' B'
      obtain ⟨qa0, qa1, qa2, qa3⟩ := Ka.out
      obtain ⟨qb0, qb1, qb2, qb3⟩ := Kb.out
      have hza : w.heap.size < w1.heap.size := lt_of_cell (a := ⟨w.heap.size, 0, none⟩) Ka.out.1
      have hzb : w.heap.size + 1 < w1.heap.size := lt_of_cell (a := ⟨w.heap.size + 1, 0, none⟩) Kb.out.1
      go_wp2_with fail
      refine (fgreat_any nc nd Ac Ad lc ld cc cd _).mono ?_
      rw [G2.out]
      rintro e w2 ⟨rfl, hb⟩
      clear qa0 qa1 qa2 qa3 qb0 qb1 qb2 qb3
      have Ka' : Hid (Cf w2 w.heap.size na Aa la.length ca nb Ab lb.length cb) := Cf.keep Ka.out hb
      have Kb' : Hid (Cf w2 (w.heap.size + 1) nc Ac lc.length cc nd Ad ld.length cd) := Cf.keep Kb.out hb
      have Sa1' : Hid (Sl w2 Aa la ca) := Sl.below Sa1.out hb
      have Sa2' : Hid (Sl w2 Ab lb cb) := Sl.below Sa2.out hb
      have Sb1' : Hid (Sl w2 Ac lc cc) := Sl.below Sb1.out hb
      have Sb2' : Hid (Sl w2 Ad ld cd) := Sl.below Sb2.out hb
      have B' : Hid (Below w.heap.size w w2) := below_mono B.out hb
      clear hb Ka Kb Sa1 Sa2 Sb1 Sb2 B
      have Ka := Ka'
      have Kb := Kb'
      have Sa1 := Sa1'
      have Sa2 := Sa2'
      have Sb1 := Sb1'
      have Sb2 := Sb2'
      have B := B'
      clear Ka' Kb' Sa1' Sa2' Sb1' Sb2' B'
      obtain ⟨qa0, qa1, qa2, qa3⟩ := Ka.out
      obtain ⟨qb0, qb1, qb2, qb3⟩ := Kb.out
      replace hza : w.heap.size < w2.heap.size := lt_of_cell (a := ⟨w.heap.size, 0, none⟩) Ka.out.1
      replace hzb : w.heap.size + 1 < w2.heap.size := lt_of_cell (a := ⟨w.heap.size + 1, 0, none⟩) Kb.out.1
      go_upto_region 3 with fail
      clear qa0 qa1 qa2 qa3 qb0 qb1 qb2 qb3
      go_cut [5, 6] from 38 to 41 (fun s5 s6 wx => ∃ (g5 g6 : Nat) (Ax : Option Addr) (cx : Nat) (Ay : Option Addr) (cy : Nat) (Au : Option Addr) (cu : Nat) (Av : Option Addr) (cv : Nat), s5 = .pointer (some ⟨g5, 0, none⟩) ∧ s6 = .pointer (some ⟨g6, 0, none⟩) ∧ w.heap.size + 1 < g5 ∧ w.heap.size + 1 < g6 ∧ Below w.heap.size w wx ∧ Cf wx w.heap.size na Aa la.length ca nb Ab lb.length cb ∧ Cf wx (w.heap.size + 1) nc Ac lc.length cc nd Ad ld.length cd ∧ Cf wx g5 na Ax la.length cx nb Ay lb.length cy ∧ Cf wx g6 nc Au lc.length cu nd Av ld.length cv ∧ Sl wx Ax la cx ∧ Sl wx Ay lb cy ∧ Sl wx Au lc cu ∧ Sl wx Av ld cv)
      case first =>
        refine region_pairF (w := w) (sa := 2) (sb := 3) (s1 := 38) (s2 := 39) (s3 := 40) (s4 := 41) (s5 := 5) (s6 := 6) (ga := w.heap.size) (gb := w.heap.size + 1) (va := ⟨na, Aa, la.length, ca, nb, Ab, lb.length, cb⟩) (vb := ⟨nc, Ac, lc.length, cc, nd, Ad, ld.length, cd⟩) rfl (by kernel_rfl)
          (⟨_, rfl, rfl, rfl, rfl, fun k hk => by cases hk⟩)
          (⟨_, rfl, rfl, rfl, rfl, fun k hk => by simp at hk; rcases hk with rfl <;> exact ⟨⟨_, .data⟩, by simp, rfl, rfl⟩⟩)
          (⟨_, rfl, rfl, rfl, rfl, fun k hk => by cases hk⟩)
          (⟨_, rfl, rfl, rfl, rfl, fun k hk => by simp at hk; rcases hk with rfl <;> exact ⟨⟨_, .data⟩, by simp, rfl, rfl⟩⟩)
          (⟨_, rfl, rfl, rfl, rfl, fun k hk => by cases hk⟩)
          (⟨_, rfl, rfl, rfl, rfl, fun k hk => by cases hk⟩)
          (⟨_, rfl, rfl, rfl, rfl, fun k hk => by simp at hk; rcases hk with rfl | rfl <;> exact ⟨⟨_, .data⟩, by simp, rfl, rfl⟩⟩)
          (⟨_, rfl, rfl, rfl, rfl, fun k hk => by simp at hk; rcases hk with rfl | rfl <;> exact ⟨⟨_, .data⟩, by simp, rfl, rfl⟩⟩)
          (by decide) (by decide) (by decide) (of_decide_eq_true (by kernel_rfl)) rfl rfl (by kernel_rfl) Oa.out Ob.out B.out Ka.out Kb.out (by omega) (by omega) ?_
        intro u1 u2 u3 u4 g5 g6 v5 v6 W l5 l6 hB hka hkb hc5 hc6 ht5 ht6
        unfold put6
        go_wp2_with fail
        obtain ⟨n5, Ax, mx, cx, n5', Ay, my, cy⟩ := v5
        obtain ⟨n6, Au, mu, cu, n6', Av, mv, cv⟩ := v6
        obtain ⟨e1, e2, e3, e4, s1, s2⟩ := ht5
        obtain ⟨e5, e6, e7, e8, s3, s4⟩ := ht6
        dsimp only at e1 e2 e3 e4 s1 s2 e5 e6 e7 e8 s3 s4
        unfold CF at hc5 hc6 hka hkb
        dsimp only at hc5 hc6 hka hkb
        rw [e1, e2, e3, e4] at hc5
        rw [e5, e6, e7, e8] at hc6
        go_meet
        exact ⟨g5, g6, Ax, cx, Ay, cy, Au, cu, Av, cv, rfl, rfl, l5, l6, hB, hka, hkb, hc5, hc6, s1, s2, s3, s4⟩
      case rest =>
        obtain ⟨g5, g6, Ax, cx, Ay, cy, Au, cu, Av, cv, rfl, rfl, h5, h6, hB, hka, hkb, hkx, hky, hx1, hx2, hy1, hy2⟩ := hcut
        have Sa1' := Lib.hid (Oa.out.2.2.2.2.1.below hB)
        have Sa2' := Lib.hid (Oa.out.2.2.2.2.2.below hB)
        have Sb1' := Lib.hid (Ob.out.2.2.2.2.1.below hB)
        have Sb2' := Lib.hid (Ob.out.2.2.2.2.2.below hB)
        clear Ka Kb Sa1 Sa2 Sb1 Sb2 B hza hzb Oa Ob
        have Sa1 : Hid (Sl wc Aa la ca) := Sa1'
        have Sa2 : Hid (Sl wc Ab lb cb) := Sa2'
        have Sb1 : Hid (Sl wc Ac lc cc) := Sb1'
        have Sb2 : Hid (Sl wc Ad ld cd) := Sb2'
        have Ka := Lib.hid hka
        have Kb := Lib.hid hkb
        have Kx := Lib.hid hkx
        have Ky := Lib.hid hky
        have Sx1 := Lib.hid hx1
        have Sx2 := Lib.hid hx2
        have Sy1 := Lib.hid hy1
        have Sy2 := Lib.hid hy2
        have B := Lib.hid hB
        clear Sa1' Sa2' Sb1' Sb2' hka hkb hkx hky hx1 hx2 hy1 hy2 hB h5 h6
        obtain ⟨qa0, qa1, qa2, qa3⟩ := Ka.out
        obtain ⟨qb0, qb1, qb2, qb3⟩ := Kb.out
        have hza : w.heap.size < wc.heap.size := lt_of_cell (a := ⟨w.heap.size, 0, none⟩) Ka.out.1
        have hzb : w.heap.size + 1 < wc.heap.size := lt_of_cell (a := ⟨w.heap.size + 1, 0, none⟩) Kb.out.1
        have hzx : g5 < wc.heap.size := lt_of_cell (a := ⟨g5, 0, none⟩) Kx.out.1
        have hzy : g6 < wc.heap.size := lt_of_cell (a := ⟨g6, 0, none⟩) Ky.out.1
        go_wp2_with fail
        refine (Ps.out _ _ _ _ _ _ _ _ _ Sa1.out Sa2.out Sb1.out Sb2.out).mono ?_
        rintro e w11 ⟨A11, c11, B11, d11, rfl, hs1, hs2, hb⟩
        clear qa0 qa1 qa2 qa3 qb0 qb1 qb2 qb3
        have Ka' : Hid (Cf w11 w.heap.size na Aa la.length ca nb Ab lb.length cb) := Cf.keep Ka.out hb
        have Kb' : Hid (Cf w11 (w.heap.size + 1) nc Ac lc.length cc nd Ad ld.length cd) := Cf.keep Kb.out hb
        have Kx' : Hid (Cf w11 g5 na Ax la.length cx nb Ay lb.length cy) := Cf.keep Kx.out hb
        have Ky' : Hid (Cf w11 g6 nc Au lc.length cu nd Av ld.length cv) := Cf.keep Ky.out hb
        have Sa1' : Hid (Sl w11 Aa la ca) := Sl.below Sa1.out hb
        have Sa2' : Hid (Sl w11 Ab lb cb) := Sl.below Sa2.out hb
        have Sb1' : Hid (Sl w11 Ac lc cc) := Sl.below Sb1.out hb
        have Sb2' : Hid (Sl w11 Ad ld cd) := Sl.below Sb2.out hb
        have Sx1' : Hid (Sl w11 Ax la cx) := Sl.below Sx1.out hb
        have Sx2' : Hid (Sl w11 Ay lb cy) := Sl.below Sx2.out hb
        have Sy1' : Hid (Sl w11 Au lc cu) := Sl.below Sy1.out hb
        have Sy2' : Hid (Sl w11 Av ld cv) := Sl.below Sy2.out hb
        have B' : Hid (Below w.heap.size w w11) := below_mono B.out hb
        clear hb Ka Kb Kx Ky Sa1 Sa2 Sb1 Sb2 Sx1 Sx2 Sy1 Sy2 B
        have Ka := Ka'
        have Kb := Kb'
        have Kx := Kx'
        have Ky := Ky'
        have Sa1 := Sa1'
        have Sa2 := Sa2'
        have Sb1 := Sb1'
        have Sb2 := Sb2'
        have Sx1 := Sx1'
        have Sx2 := Sx2'
        have Sy1 := Sy1'
        have Sy2 := Sy2'
        have B := B'
        clear Ka' Kb' Kx' Ky' Sa1' Sa2' Sb1' Sb2' Sx1' Sx2' Sy1' Sy2' B'
        (try dsimp only at hs1 hs2)
        (try dsimp only)
        have Ss1 : Hid (Sl w11 A11 ls c11) := hs1
        clear hs1
        have Ss2 : Hid (Sl w11 B11 js d11) := hs2
        clear hs2
        obtain ⟨qx0, qx1, qx2, qx3⟩ := Kx.out
        obtain ⟨qy0, qy1, qy2, qy3⟩ := Ky.out
        replace hza : w.heap.size < w11.heap.size := lt_of_cell (a := ⟨w.heap.size, 0, none⟩) Ka.out.1
        replace hzb : w.heap.size + 1 < w11.heap.size := lt_of_cell (a := ⟨w.heap.size + 1, 0, none⟩) Kb.out.1
        replace hzx : g5 < w11.heap.size := lt_of_cell (a := ⟨g5, 0, none⟩) Kx.out.1
        replace hzy : g6 < w11.heap.size := lt_of_cell (a := ⟨g6, 0, none⟩) Ky.out.1
        go_wp2_with fail
        refine (Rs.out _ _ _ _ _ _ _ _ _ (Sx1.out.alloc _) (Sx2.out.alloc _) (Sy1.out.alloc _) (Sy2.out.alloc _)).mono ?_
        rintro e w12 ⟨A12, c12, B12, d12, rfl, hs1, hs2, hb⟩
        clear qx0 qx1 qx2 qx3 qy0 qy1 qy2 qy3
        have Ka' : Hid (Cf w12 w.heap.size na Aa la.length ca nb Ab lb.length cb) := Cf.keep (Cf.keep Ka.out (blw1 _ _)) hb
        have Kb' : Hid (Cf w12 (w.heap.size + 1) nc Ac lc.length cc nd Ad ld.length cd) := Cf.keep (Cf.keep Kb.out (blw1 _ _)) hb
        have Kx' : Hid (Cf w12 g5 na Ax la.length cx nb Ay lb.length cy) := Cf.keep (Cf.keep Kx.out (blw1 _ _)) hb
        have Ky' : Hid (Cf w12 g6 nc Au lc.length cu nd Av ld.length cv) := Cf.keep (Cf.keep Ky.out (blw1 _ _)) hb
        have Ks' : Hid (Cf w12 w11.heap.size ns A11 ls.length c11 ms B11 js.length d11) := Cf.keep (Cf.fresh (by simp) _ _ _ _ _ _ _ _ _) hb
        have Sa1' : Hid (Sl w12 Aa la ca) := Sl.below (Sa1.out.alloc _) hb
        have Sa2' : Hid (Sl w12 Ab lb cb) := Sl.below (Sa2.out.alloc _) hb
        have Sb1' : Hid (Sl w12 Ac lc cc) := Sl.below (Sb1.out.alloc _) hb
        have Sb2' : Hid (Sl w12 Ad ld cd) := Sl.below (Sb2.out.alloc _) hb
        have Sx1' : Hid (Sl w12 Ax la cx) := Sl.below (Sx1.out.alloc _) hb
        have Sx2' : Hid (Sl w12 Ay lb cy) := Sl.below (Sx2.out.alloc _) hb
        have Sy1' : Hid (Sl w12 Au lc cu) := Sl.below (Sy1.out.alloc _) hb
        have Sy2' : Hid (Sl w12 Av ld cv) := Sl.below (Sy2.out.alloc _) hb
        have Ss1' : Hid (Sl w12 A11 ls c11) := Sl.below (Ss1.out.alloc _) hb
        have Ss2' : Hid (Sl w12 B11 js d11) := Sl.below (Ss2.out.alloc _) hb
        have B' : Hid (Below w.heap.size w w12) := below_mono (below_mono B.out (blw1 _ _)) hb
        clear hb Ka Kb Kx Ky Sa1 Sa2 Sb1 Sb2 Sx1 Sx2 Sy1 Sy2 Ss1 Ss2 B
        have Ka := Ka'
        have Kb := Kb'
        have Kx := Kx'
        have Ky := Ky'
        have Ks := Ks'
        have Sa1 := Sa1'
        have Sa2 := Sa2'
        have Sb1 := Sb1'
        have Sb2 := Sb2'
        have Sx1 := Sx1'
        have Sx2 := Sx2'
        have Sy1 := Sy1'
        have Sy2 := Sy2'
        have Ss1 := Ss1'
        have Ss2 := Ss2'
        have B := B'
        clear Ka' Kb' Kx' Ky' Ks' Sa1' Sa2' Sb1' Sb2' Sx1' Sx2' Sy1' Sy2' Ss1' Ss2' B'
        (try dsimp only at hs1 hs2)
        (try dsimp only)
        have St1 : Hid (Sl w12 A12 ls c12) := hs1
        clear hs1
        have St2 : Hid (Sl w12 B12 js d12) := hs2
        clear hs2
        obtain ⟨qa0, qa1, qa2, qa3⟩ := Ka.out
        obtain ⟨qb0, qb1, qb2, qb3⟩ := Kb.out
        replace hza : w.heap.size < w12.heap.size := lt_of_cell (a := ⟨w.heap.size, 0, none⟩) Ka.out.1
        replace hzb : w.heap.size + 1 < w12.heap.size := lt_of_cell (a := ⟨w.heap.size + 1, 0, none⟩) Kb.out.1
        replace hzx : g5 < w12.heap.size := lt_of_cell (a := ⟨g5, 0, none⟩) Kx.out.1
        replace hzy : g6 < w12.heap.size := lt_of_cell (a := ⟨g6, 0, none⟩) Ky.out.1
        have hzs : w11.heap.size < w12.heap.size := lt_of_cell (a := ⟨w11.heap.size, 0, none⟩) Ks.out.1
        go_wp2_with fail
        refine (Pi.out _ _ _ _ _ _ _ _ _ (Sa1.out.alloc _) (Sa2.out.alloc _) (Sb1.out.alloc _) (Sb2.out.alloc _)).mono ?_
        rintro e w13 ⟨A13, c13, B13, d13, rfl, hs1, hs2, hb⟩
        clear qa0 qa1 qa2 qa3 qb0 qb1 qb2 qb3
        have Ka' : Hid (Cf w13 w.heap.size na Aa la.length ca nb Ab lb.length cb) := Cf.keep (Cf.keep Ka.out (blw1 _ _)) hb
        have Kb' : Hid (Cf w13 (w.heap.size + 1) nc Ac lc.length cc nd Ad ld.length cd) := Cf.keep (Cf.keep Kb.out (blw1 _ _)) hb
        have Kx' : Hid (Cf w13 g5 na Ax la.length cx nb Ay lb.length cy) := Cf.keep (Cf.keep Kx.out (blw1 _ _)) hb
        have Ky' : Hid (Cf w13 g6 nc Au lc.length cu nd Av ld.length cv) := Cf.keep (Cf.keep Ky.out (blw1 _ _)) hb
        have Ks' : Hid (Cf w13 w11.heap.size ns A11 ls.length c11 ms B11 js.length d11) := Cf.keep (Cf.keep Ks.out (blw1 _ _)) hb
        have Kt' : Hid (Cf w13 w12.heap.size ns A12 ls.length c12 ms B12 js.length d12) := Cf.keep (Cf.fresh (by simp) _ _ _ _ _ _ _ _ _) hb
        have Sa1' : Hid (Sl w13 Aa la ca) := Sl.below (Sa1.out.alloc _) hb
        have Sa2' : Hid (Sl w13 Ab lb cb) := Sl.below (Sa2.out.alloc _) hb
        have Sb1' : Hid (Sl w13 Ac lc cc) := Sl.below (Sb1.out.alloc _) hb
        have Sb2' : Hid (Sl w13 Ad ld cd) := Sl.below (Sb2.out.alloc _) hb
        have Sx1' : Hid (Sl w13 Ax la cx) := Sl.below (Sx1.out.alloc _) hb
        have Sx2' : Hid (Sl w13 Ay lb cy) := Sl.below (Sx2.out.alloc _) hb
        have Sy1' : Hid (Sl w13 Au lc cu) := Sl.below (Sy1.out.alloc _) hb
        have Sy2' : Hid (Sl w13 Av ld cv) := Sl.below (Sy2.out.alloc _) hb
        have Ss1' : Hid (Sl w13 A11 ls c11) := Sl.below (Ss1.out.alloc _) hb
        have Ss2' : Hid (Sl w13 B11 js d11) := Sl.below (Ss2.out.alloc _) hb
        have St1' : Hid (Sl w13 A12 ls c12) := Sl.below (St1.out.alloc _) hb
        have St2' : Hid (Sl w13 B12 js d12) := Sl.below (St2.out.alloc _) hb
        have B' : Hid (Below w.heap.size w w13) := below_mono (below_mono B.out (blw1 _ _)) hb
        clear hb Ka Kb Kx Ky Ks Sa1 Sa2 Sb1 Sb2 Sx1 Sx2 Sy1 Sy2 Ss1 Ss2 St1 St2 B
        have Ka := Ka'
        have Kb := Kb'
        have Kx := Kx'
        have Ky := Ky'
        have Ks := Ks'
        have Kt := Kt'
        have Sa1 := Sa1'
        have Sa2 := Sa2'
        have Sb1 := Sb1'
        have Sb2 := Sb2'
        have Sx1 := Sx1'
        have Sx2 := Sx2'
        have Sy1 := Sy1'
        have Sy2 := Sy2'
        have Ss1 := Ss1'
        have Ss2 := Ss2'
        have St1 := St1'
        have St2 := St2'
        have B := B'
        clear Ka' Kb' Kx' Ky' Ks' Kt' Sa1' Sa2' Sb1' Sb2' Sx1' Sx2' Sy1' Sy2' Ss1' Ss2' St1' St2' B'
        (try dsimp only at hs1 hs2)
        (try dsimp only)
        have Si1 : Hid (Sl w13 A13 li c13) := hs1
        clear hs1
        have Si2 : Hid (Sl w13 B13 ji d13) := hs2
        clear hs2
        obtain ⟨qx0, qx1, qx2, qx3⟩ := Kx.out
        obtain ⟨qy0, qy1, qy2, qy3⟩ := Ky.out
        replace hza : w.heap.size < w13.heap.size := lt_of_cell (a := ⟨w.heap.size, 0, none⟩) Ka.out.1
        replace hzb : w.heap.size + 1 < w13.heap.size := lt_of_cell (a := ⟨w.heap.size + 1, 0, none⟩) Kb.out.1
        replace hzx : g5 < w13.heap.size := lt_of_cell (a := ⟨g5, 0, none⟩) Kx.out.1
        replace hzy : g6 < w13.heap.size := lt_of_cell (a := ⟨g6, 0, none⟩) Ky.out.1
        replace hzs : w11.heap.size < w13.heap.size := lt_of_cell (a := ⟨w11.heap.size, 0, none⟩) Ks.out.1
        have hzt : w12.heap.size < w13.heap.size := lt_of_cell (a := ⟨w12.heap.size, 0, none⟩) Kt.out.1
        go_wp2_with fail
        refine (Ri.out _ _ _ _ _ _ _ _ _ (Sx1.out.alloc _) (Sx2.out.alloc _) (Sy1.out.alloc _) (Sy2.out.alloc _)).mono ?_
        rintro e w14 ⟨A14, c14, B14, d14, rfl, hs1, hs2, hb⟩
        clear qx0 qx1 qx2 qx3 qy0 qy1 qy2 qy3
        have Ka' : Hid (Cf w14 w.heap.size na Aa la.length ca nb Ab lb.length cb) := Cf.keep (Cf.keep Ka.out (blw1 _ _)) hb
        have Kb' : Hid (Cf w14 (w.heap.size + 1) nc Ac lc.length cc nd Ad ld.length cd) := Cf.keep (Cf.keep Kb.out (blw1 _ _)) hb
        have Kx' : Hid (Cf w14 g5 na Ax la.length cx nb Ay lb.length cy) := Cf.keep (Cf.keep Kx.out (blw1 _ _)) hb
        have Ky' : Hid (Cf w14 g6 nc Au lc.length cu nd Av ld.length cv) := Cf.keep (Cf.keep Ky.out (blw1 _ _)) hb
        have Ks' : Hid (Cf w14 w11.heap.size ns A11 ls.length c11 ms B11 js.length d11) := Cf.keep (Cf.keep Ks.out (blw1 _ _)) hb
        have Kt' : Hid (Cf w14 w12.heap.size ns A12 ls.length c12 ms B12 js.length d12) := Cf.keep (Cf.keep Kt.out (blw1 _ _)) hb
        have Ki' : Hid (Cf w14 w13.heap.size ni A13 li.length c13 mi B13 ji.length d13) := Cf.keep (Cf.fresh (by simp) _ _ _ _ _ _ _ _ _) hb
        have Sa1' : Hid (Sl w14 Aa la ca) := Sl.below (Sa1.out.alloc _) hb
        have Sa2' : Hid (Sl w14 Ab lb cb) := Sl.below (Sa2.out.alloc _) hb
        have Sb1' : Hid (Sl w14 Ac lc cc) := Sl.below (Sb1.out.alloc _) hb
        have Sb2' : Hid (Sl w14 Ad ld cd) := Sl.below (Sb2.out.alloc _) hb
        have Sx1' : Hid (Sl w14 Ax la cx) := Sl.below (Sx1.out.alloc _) hb
        have Sx2' : Hid (Sl w14 Ay lb cy) := Sl.below (Sx2.out.alloc _) hb
        have Sy1' : Hid (Sl w14 Au lc cu) := Sl.below (Sy1.out.alloc _) hb
        have Sy2' : Hid (Sl w14 Av ld cv) := Sl.below (Sy2.out.alloc _) hb
        have Ss1' : Hid (Sl w14 A11 ls c11) := Sl.below (Ss1.out.alloc _) hb
        have Ss2' : Hid (Sl w14 B11 js d11) := Sl.below (Ss2.out.alloc _) hb
        have St1' : Hid (Sl w14 A12 ls c12) := Sl.below (St1.out.alloc _) hb
        have St2' : Hid (Sl w14 B12 js d12) := Sl.below (St2.out.alloc _) hb
        have Si1' : Hid (Sl w14 A13 li c13) := Sl.below (Si1.out.alloc _) hb
        have Si2' : Hid (Sl w14 B13 ji d13) := Sl.below (Si2.out.alloc _) hb
        have B' : Hid (Below w.heap.size w w14) := below_mono (below_mono B.out (blw1 _ _)) hb
        clear hb Ka Kb Kx Ky Ks Kt Sa1 Sa2 Sb1 Sb2 Sx1 Sx2 Sy1 Sy2 Ss1 Ss2 St1 St2 Si1 Si2 B
        have Ka := Ka'
        have Kb := Kb'
        have Kx := Kx'
        have Ky := Ky'
        have Ks := Ks'
        have Kt := Kt'
        have Ki := Ki'
        have Sa1 := Sa1'
        have Sa2 := Sa2'
        have Sb1 := Sb1'
        have Sb2 := Sb2'
        have Sx1 := Sx1'
        have Sx2 := Sx2'
        have Sy1 := Sy1'
        have Sy2 := Sy2'
        have Ss1 := Ss1'
        have Ss2 := Ss2'
        have St1 := St1'
        have St2 := St2'
        have Si1 := Si1'
        have Si2 := Si2'
        have B := B'
        clear Ka' Kb' Kx' Ky' Ks' Kt' Ki' Sa1' Sa2' Sb1' Sb2' Sx1' Sx2' Sy1' Sy2' Ss1' Ss2' St1' St2' Si1' Si2' B'
        (try dsimp only at hs1 hs2)
        (try dsimp only)
        have Sc1 : Hid (Sl w14 A14 li c14) := hs1
        clear hs1
        have Sc2 : Hid (Sl w14 B14 ji d14) := hs2
        clear hs2
        obtain ⟨qa0, qa1, qa2, qa3⟩ := Ka.out
        obtain ⟨qb0, qb1, qb2, qb3⟩ := Kb.out
        replace hza : w.heap.size < w14.heap.size := lt_of_cell (a := ⟨w.heap.size, 0, none⟩) Ka.out.1
        replace hzb : w.heap.size + 1 < w14.heap.size := lt_of_cell (a := ⟨w.heap.size + 1, 0, none⟩) Kb.out.1
        replace hzx : g5 < w14.heap.size := lt_of_cell (a := ⟨g5, 0, none⟩) Kx.out.1
        replace hzy : g6 < w14.heap.size := lt_of_cell (a := ⟨g6, 0, none⟩) Ky.out.1
        replace hzs : w11.heap.size < w14.heap.size := lt_of_cell (a := ⟨w11.heap.size, 0, none⟩) Ks.out.1
        replace hzt : w12.heap.size < w14.heap.size := lt_of_cell (a := ⟨w12.heap.size, 0, none⟩) Kt.out.1
        have hzi : w13.heap.size < w14.heap.size := lt_of_cell (a := ⟨w13.heap.size, 0, none⟩) Ki.out.1
        go_wp2_with fail
        refine (Pp.out _ _ _ _ _ _ _ _ _ (Sa1.out.alloc _) (Sa2.out.alloc _) (Sb1.out.alloc _) (Sb2.out.alloc _)).mono ?_
        rintro e w15 ⟨A15, c15, B15, d15, rfl, hs1, hs2, hb⟩
        clear qa0 qa1 qa2 qa3 qb0 qb1 qb2 qb3
        have Ka' : Hid (Cf w15 w.heap.size na Aa la.length ca nb Ab lb.length cb) := Cf.keep (Cf.keep Ka.out (blw1 _ _)) hb
        have Kb' : Hid (Cf w15 (w.heap.size + 1) nc Ac lc.length cc nd Ad ld.length cd) := Cf.keep (Cf.keep Kb.out (blw1 _ _)) hb
        have Kx' : Hid (Cf w15 g5 na Ax la.length cx nb Ay lb.length cy) := Cf.keep (Cf.keep Kx.out (blw1 _ _)) hb
        have Ky' : Hid (Cf w15 g6 nc Au lc.length cu nd Av ld.length cv) := Cf.keep (Cf.keep Ky.out (blw1 _ _)) hb
        have Ks' : Hid (Cf w15 w11.heap.size ns A11 ls.length c11 ms B11 js.length d11) := Cf.keep (Cf.keep Ks.out (blw1 _ _)) hb
        have Kt' : Hid (Cf w15 w12.heap.size ns A12 ls.length c12 ms B12 js.length d12) := Cf.keep (Cf.keep Kt.out (blw1 _ _)) hb
        have Ki' : Hid (Cf w15 w13.heap.size ni A13 li.length c13 mi B13 ji.length d13) := Cf.keep (Cf.keep Ki.out (blw1 _ _)) hb
        have Kc' : Hid (Cf w15 w14.heap.size ni A14 li.length c14 mi B14 ji.length d14) := Cf.keep (Cf.fresh (by simp) _ _ _ _ _ _ _ _ _) hb
        have Sa1' : Hid (Sl w15 Aa la ca) := Sl.below (Sa1.out.alloc _) hb
        have Sa2' : Hid (Sl w15 Ab lb cb) := Sl.below (Sa2.out.alloc _) hb
        have Sb1' : Hid (Sl w15 Ac lc cc) := Sl.below (Sb1.out.alloc _) hb
        have Sb2' : Hid (Sl w15 Ad ld cd) := Sl.below (Sb2.out.alloc _) hb
        have Sx1' : Hid (Sl w15 Ax la cx) := Sl.below (Sx1.out.alloc _) hb
        have Sx2' : Hid (Sl w15 Ay lb cy) := Sl.below (Sx2.out.alloc _) hb
        have Sy1' : Hid (Sl w15 Au lc cu) := Sl.below (Sy1.out.alloc _) hb
        have Sy2' : Hid (Sl w15 Av ld cv) := Sl.below (Sy2.out.alloc _) hb
        have Ss1' : Hid (Sl w15 A11 ls c11) := Sl.below (Ss1.out.alloc _) hb
        have Ss2' : Hid (Sl w15 B11 js d11) := Sl.below (Ss2.out.alloc _) hb
        have St1' : Hid (Sl w15 A12 ls c12) := Sl.below (St1.out.alloc _) hb
        have St2' : Hid (Sl w15 B12 js d12) := Sl.below (St2.out.alloc _) hb
        have Si1' : Hid (Sl w15 A13 li c13) := Sl.below (Si1.out.alloc _) hb
        have Si2' : Hid (Sl w15 B13 ji d13) := Sl.below (Si2.out.alloc _) hb
        have Sc1' : Hid (Sl w15 A14 li c14) := Sl.below (Sc1.out.alloc _) hb
        have Sc2' : Hid (Sl w15 B14 ji d14) := Sl.below (Sc2.out.alloc _) hb
        have B' : Hid (Below w.heap.size w w15) := below_mono (below_mono B.out (blw1 _ _)) hb
        clear hb Ka Kb Kx Ky Ks Kt Ki Sa1 Sa2 Sb1 Sb2 Sx1 Sx2 Sy1 Sy2 Ss1 Ss2 St1 St2 Si1 Si2 Sc1 Sc2 B
        have Ka := Ka'
        have Kb := Kb'
        have Kx := Kx'
        have Ky := Ky'
        have Ks := Ks'
        have Kt := Kt'
        have Ki := Ki'
        have Kc := Kc'
        have Sa1 := Sa1'
        have Sa2 := Sa2'
        have Sb1 := Sb1'
        have Sb2 := Sb2'
        have Sx1 := Sx1'
        have Sx2 := Sx2'
        have Sy1 := Sy1'
        have Sy2 := Sy2'
        have Ss1 := Ss1'
        have Ss2 := Ss2'
        have St1 := St1'
        have St2 := St2'
        have Si1 := Si1'
        have Si2 := Si2'
        have Sc1 := Sc1'
        have Sc2 := Sc2'
        have B := B'
        clear Ka' Kb' Kx' Ky' Ks' Kt' Ki' Kc' Sa1' Sa2' Sb1' Sb2' Sx1' Sx2' Sy1' Sy2' Ss1' Ss2' St1' St2' Si1' Si2' Sc1' Sc2' B'
        (try dsimp only at hs1 hs2)
        (try dsimp only)
        have Sp1 : Hid (Sl w15 A15 lp c15) := hs1
        clear hs1
        have Sp2 : Hid (Sl w15 B15 jp d15) := hs2
        clear hs2
        obtain ⟨qx0, qx1, qx2, qx3⟩ := Kx.out
        obtain ⟨qy0, qy1, qy2, qy3⟩ := Ky.out
        replace hza : w.heap.size < w15.heap.size := lt_of_cell (a := ⟨w.heap.size, 0, none⟩) Ka.out.1
        replace hzb : w.heap.size + 1 < w15.heap.size := lt_of_cell (a := ⟨w.heap.size + 1, 0, none⟩) Kb.out.1
        replace hzx : g5 < w15.heap.size := lt_of_cell (a := ⟨g5, 0, none⟩) Kx.out.1
        replace hzy : g6 < w15.heap.size := lt_of_cell (a := ⟨g6, 0, none⟩) Ky.out.1
        replace hzs : w11.heap.size < w15.heap.size := lt_of_cell (a := ⟨w11.heap.size, 0, none⟩) Ks.out.1
        replace hzt : w12.heap.size < w15.heap.size := lt_of_cell (a := ⟨w12.heap.size, 0, none⟩) Kt.out.1
        replace hzi : w13.heap.size < w15.heap.size := lt_of_cell (a := ⟨w13.heap.size, 0, none⟩) Ki.out.1
        have hzc : w14.heap.size < w15.heap.size := lt_of_cell (a := ⟨w14.heap.size, 0, none⟩) Kc.out.1
        go_wp2_with fail
        refine (Rp.out _ _ _ _ _ _ _ _ _ (Sx1.out.alloc _) (Sx2.out.alloc _) (Sy1.out.alloc _) (Sy2.out.alloc _)).mono ?_
        rintro e w16 ⟨A16, c16, B16, d16, rfl, hs1, hs2, hb⟩
        clear qx0 qx1 qx2 qx3 qy0 qy1 qy2 qy3
        have Ka' : Hid (Cf w16 w.heap.size na Aa la.length ca nb Ab lb.length cb) := Cf.keep (Cf.keep Ka.out (blw1 _ _)) hb
        have Kb' : Hid (Cf w16 (w.heap.size + 1) nc Ac lc.length cc nd Ad ld.length cd) := Cf.keep (Cf.keep Kb.out (blw1 _ _)) hb
        have Kx' : Hid (Cf w16 g5 na Ax la.length cx nb Ay lb.length cy) := Cf.keep (Cf.keep Kx.out (blw1 _ _)) hb
        have Ky' : Hid (Cf w16 g6 nc Au lc.length cu nd Av ld.length cv) := Cf.keep (Cf.keep Ky.out (blw1 _ _)) hb
        have Ks' : Hid (Cf w16 w11.heap.size ns A11 ls.length c11 ms B11 js.length d11) := Cf.keep (Cf.keep Ks.out (blw1 _ _)) hb
        have Kt' : Hid (Cf w16 w12.heap.size ns A12 ls.length c12 ms B12 js.length d12) := Cf.keep (Cf.keep Kt.out (blw1 _ _)) hb
        have Ki' : Hid (Cf w16 w13.heap.size ni A13 li.length c13 mi B13 ji.length d13) := Cf.keep (Cf.keep Ki.out (blw1 _ _)) hb
        have Kc' : Hid (Cf w16 w14.heap.size ni A14 li.length c14 mi B14 ji.length d14) := Cf.keep (Cf.keep Kc.out (blw1 _ _)) hb
        have Kp' : Hid (Cf w16 w15.heap.size np A15 lp.length c15 mp B15 jp.length d15) := Cf.keep (Cf.fresh (by simp) _ _ _ _ _ _ _ _ _) hb
        have Sa1' : Hid (Sl w16 Aa la ca) := Sl.below (Sa1.out.alloc _) hb
        have Sa2' : Hid (Sl w16 Ab lb cb) := Sl.below (Sa2.out.alloc _) hb
        have Sb1' : Hid (Sl w16 Ac lc cc) := Sl.below (Sb1.out.alloc _) hb
        have Sb2' : Hid (Sl w16 Ad ld cd) := Sl.below (Sb2.out.alloc _) hb
        have Sx1' : Hid (Sl w16 Ax la cx) := Sl.below (Sx1.out.alloc _) hb
        have Sx2' : Hid (Sl w16 Ay lb cy) := Sl.below (Sx2.out.alloc _) hb
        have Sy1' : Hid (Sl w16 Au lc cu) := Sl.below (Sy1.out.alloc _) hb
        have Sy2' : Hid (Sl w16 Av ld cv) := Sl.below (Sy2.out.alloc _) hb
        have Ss1' : Hid (Sl w16 A11 ls c11) := Sl.below (Ss1.out.alloc _) hb
        have Ss2' : Hid (Sl w16 B11 js d11) := Sl.below (Ss2.out.alloc _) hb
        have St1' : Hid (Sl w16 A12 ls c12) := Sl.below (St1.out.alloc _) hb
        have St2' : Hid (Sl w16 B12 js d12) := Sl.below (St2.out.alloc _) hb
        have Si1' : Hid (Sl w16 A13 li c13) := Sl.below (Si1.out.alloc _) hb
        have Si2' : Hid (Sl w16 B13 ji d13) := Sl.below (Si2.out.alloc _) hb
        have Sc1' : Hid (Sl w16 A14 li c14) := Sl.below (Sc1.out.alloc _) hb
        have Sc2' : Hid (Sl w16 B14 ji d14) := Sl.below (Sc2.out.alloc _) hb
        have Sp1' : Hid (Sl w16 A15 lp c15) := Sl.below (Sp1.out.alloc _) hb
        have Sp2' : Hid (Sl w16 B15 jp d15) := Sl.below (Sp2.out.alloc _) hb
        have B' : Hid (Below w.heap.size w w16) := below_mono (below_mono B.out (blw1 _ _)) hb
        clear hb Ka Kb Kx Ky Ks Kt Ki Kc Sa1 Sa2 Sb1 Sb2 Sx1 Sx2 Sy1 Sy2 Ss1 Ss2 St1 St2 Si1 Si2 Sc1 Sc2 Sp1 Sp2 B
        have Ka := Ka'
        have Kb := Kb'
        have Kx := Kx'
        have Ky := Ky'
        have Ks := Ks'
        have Kt := Kt'
        have Ki := Ki'
        have Kc := Kc'
        have Kp := Kp'
        have Sa1 := Sa1'
        have Sa2 := Sa2'
        have Sb1 := Sb1'
        have Sb2 := Sb2'
        have Sx1 := Sx1'
        have Sx2 := Sx2'
        have Sy1 := Sy1'
        have Sy2 := Sy2'
        have Ss1 := Ss1'
        have Ss2 := Ss2'
        have St1 := St1'
        have St2 := St2'
        have Si1 := Si1'
        have Si2 := Si2'
        have Sc1 := Sc1'
        have Sc2 := Sc2'
        have Sp1 := Sp1'
        have Sp2 := Sp2'
        have B := B'
        clear Ka' Kb' Kx' Ky' Ks' Kt' Ki' Kc' Kp' Sa1' Sa2' Sb1' Sb2' Sx1' Sx2' Sy1' Sy2' Ss1' Ss2' St1' St2' Si1' Si2' Sc1' Sc2' Sp1' Sp2' B'
        (try dsimp only at hs1 hs2)
        (try dsimp only)
        have Sq1 : Hid (Sl w16 A16 lp c16) := hs1
        clear hs1
        have Sq2 : Hid (Sl w16 B16 jp d16) := hs2
        clear hs2
        obtain ⟨qa0, qa1, qa2, qa3⟩ := Ka.out
        obtain ⟨qb0, qb1, qb2, qb3⟩ := Kb.out
        replace hza : w.heap.size < w16.heap.size := lt_of_cell (a := ⟨w.heap.size, 0, none⟩) Ka.out.1
        replace hzb : w.heap.size + 1 < w16.heap.size := lt_of_cell (a := ⟨w.heap.size + 1, 0, none⟩) Kb.out.1
        replace hzx : g5 < w16.heap.size := lt_of_cell (a := ⟨g5, 0, none⟩) Kx.out.1
        replace hzy : g6 < w16.heap.size := lt_of_cell (a := ⟨g6, 0, none⟩) Ky.out.1
        replace hzs : w11.heap.size < w16.heap.size := lt_of_cell (a := ⟨w11.heap.size, 0, none⟩) Ks.out.1
        replace hzt : w12.heap.size < w16.heap.size := lt_of_cell (a := ⟨w12.heap.size, 0, none⟩) Kt.out.1
        replace hzi : w13.heap.size < w16.heap.size := lt_of_cell (a := ⟨w13.heap.size, 0, none⟩) Ki.out.1
        replace hzc : w14.heap.size < w16.heap.size := lt_of_cell (a := ⟨w14.heap.size, 0, none⟩) Kc.out.1
        have hzp : w15.heap.size < w16.heap.size := lt_of_cell (a := ⟨w15.heap.size, 0, none⟩) Kp.out.1
        go_wp2_with fail
        refine (Pr.out _ _ _ _ _ _ _ _ _ (Sa1.out.alloc _) (Sa2.out.alloc _) (Sb1.out.alloc _) (Sb2.out.alloc _)).mono ?_
        rintro e w17 ⟨A17, c17, B17, d17, rfl, hs1, hs2, hb⟩
        clear qa0 qa1 qa2 qa3 qb0 qb1 qb2 qb3
        have Ka' : Hid (Cf w17 w.heap.size na Aa la.length ca nb Ab lb.length cb) := Cf.keep (Cf.keep Ka.out (blw1 _ _)) hb
        have Kb' : Hid (Cf w17 (w.heap.size + 1) nc Ac lc.length cc nd Ad ld.length cd) := Cf.keep (Cf.keep Kb.out (blw1 _ _)) hb
        have Kx' : Hid (Cf w17 g5 na Ax la.length cx nb Ay lb.length cy) := Cf.keep (Cf.keep Kx.out (blw1 _ _)) hb
        have Ky' : Hid (Cf w17 g6 nc Au lc.length cu nd Av ld.length cv) := Cf.keep (Cf.keep Ky.out (blw1 _ _)) hb
        have Ks' : Hid (Cf w17 w11.heap.size ns A11 ls.length c11 ms B11 js.length d11) := Cf.keep (Cf.keep Ks.out (blw1 _ _)) hb
        have Kt' : Hid (Cf w17 w12.heap.size ns A12 ls.length c12 ms B12 js.length d12) := Cf.keep (Cf.keep Kt.out (blw1 _ _)) hb
        have Ki' : Hid (Cf w17 w13.heap.size ni A13 li.length c13 mi B13 ji.length d13) := Cf.keep (Cf.keep Ki.out (blw1 _ _)) hb
        have Kc' : Hid (Cf w17 w14.heap.size ni A14 li.length c14 mi B14 ji.length d14) := Cf.keep (Cf.keep Kc.out (blw1 _ _)) hb
        have Kp' : Hid (Cf w17 w15.heap.size np A15 lp.length c15 mp B15 jp.length d15) := Cf.keep (Cf.keep Kp.out (blw1 _ _)) hb
        have Kq' : Hid (Cf w17 w16.heap.size np A16 lp.length c16 mp B16 jp.length d16) := Cf.keep (Cf.fresh (by simp) _ _ _ _ _ _ _ _ _) hb
        have Sa1' : Hid (Sl w17 Aa la ca) := Sl.below (Sa1.out.alloc _) hb
        have Sa2' : Hid (Sl w17 Ab lb cb) := Sl.below (Sa2.out.alloc _) hb
        have Sb1' : Hid (Sl w17 Ac lc cc) := Sl.below (Sb1.out.alloc _) hb
        have Sb2' : Hid (Sl w17 Ad ld cd) := Sl.below (Sb2.out.alloc _) hb
        have Sx1' : Hid (Sl w17 Ax la cx) := Sl.below (Sx1.out.alloc _) hb
        have Sx2' : Hid (Sl w17 Ay lb cy) := Sl.below (Sx2.out.alloc _) hb
        have Sy1' : Hid (Sl w17 Au lc cu) := Sl.below (Sy1.out.alloc _) hb
        have Sy2' : Hid (Sl w17 Av ld cv) := Sl.below (Sy2.out.alloc _) hb
        have Ss1' : Hid (Sl w17 A11 ls c11) := Sl.below (Ss1.out.alloc _) hb
        have Ss2' : Hid (Sl w17 B11 js d11) := Sl.below (Ss2.out.alloc _) hb
        have St1' : Hid (Sl w17 A12 ls c12) := Sl.below (St1.out.alloc _) hb
        have St2' : Hid (Sl w17 B12 js d12) := Sl.below (St2.out.alloc _) hb
        have Si1' : Hid (Sl w17 A13 li c13) := Sl.below (Si1.out.alloc _) hb
        have Si2' : Hid (Sl w17 B13 ji d13) := Sl.below (Si2.out.alloc _) hb
        have Sc1' : Hid (Sl w17 A14 li c14) := Sl.below (Sc1.out.alloc _) hb
        have Sc2' : Hid (Sl w17 B14 ji d14) := Sl.below (Sc2.out.alloc _) hb
        have Sp1' : Hid (Sl w17 A15 lp c15) := Sl.below (Sp1.out.alloc _) hb
        have Sp2' : Hid (Sl w17 B15 jp d15) := Sl.below (Sp2.out.alloc _) hb
        have Sq1' : Hid (Sl w17 A16 lp c16) := Sl.below (Sq1.out.alloc _) hb
        have Sq2' : Hid (Sl w17 B16 jp d16) := Sl.below (Sq2.out.alloc _) hb
        have B' : Hid (Below w.heap.size w w17) := below_mono (below_mono B.out (blw1 _ _)) hb
        clear hb Ka Kb Kx Ky Ks Kt Ki Kc Kp Sa1 Sa2 Sb1 Sb2 Sx1 Sx2 Sy1 Sy2 Ss1 Ss2 St1 St2 Si1 Si2 Sc1 Sc2 Sp1 Sp2 Sq1 Sq2 B
        have Ka := Ka'
        have Kb := Kb'
        have Kx := Kx'
        have Ky := Ky'
        have Ks := Ks'
        have Kt := Kt'
        have Ki := Ki'
        have Kc := Kc'
        have Kp := Kp'
        have Kq := Kq'
        have Sa1 := Sa1'
        have Sa2 := Sa2'
        have Sb1 := Sb1'
        have Sb2 := Sb2'
        have Sx1 := Sx1'
        have Sx2 := Sx2'
        have Sy1 := Sy1'
        have Sy2 := Sy2'
        have Ss1 := Ss1'
        have Ss2 := Ss2'
        have St1 := St1'
        have St2 := St2'
        have Si1 := Si1'
        have Si2 := Si2'
        have Sc1 := Sc1'
        have Sc2 := Sc2'
        have Sp1 := Sp1'
        have Sp2 := Sp2'
        have Sq1 := Sq1'
        have Sq2 := Sq2'
        have B := B'
        clear Ka' Kb' Kx' Ky' Ks' Kt' Ki' Kc' Kp' Kq' Sa1' Sa2' Sb1' Sb2' Sx1' Sx2' Sy1' Sy2' Ss1' Ss2' St1' St2' Si1' Si2' Sc1' Sc2' Sp1' Sp2' Sq1' Sq2' B'
        (try dsimp only at hs1 hs2)
        (try dsimp only)
        have Sr1 : Hid (Sl w17 A17 lr c17) := hs1
        clear hs1
        have Sr2 : Hid (Sl w17 B17 jr d17) := hs2
        clear hs2
        obtain ⟨qx0, qx1, qx2, qx3⟩ := Kx.out
        obtain ⟨qy0, qy1, qy2, qy3⟩ := Ky.out
        replace hza : w.heap.size < w17.heap.size := lt_of_cell (a := ⟨w.heap.size, 0, none⟩) Ka.out.1
        replace hzb : w.heap.size + 1 < w17.heap.size := lt_of_cell (a := ⟨w.heap.size + 1, 0, none⟩) Kb.out.1
        replace hzx : g5 < w17.heap.size := lt_of_cell (a := ⟨g5, 0, none⟩) Kx.out.1
        replace hzy : g6 < w17.heap.size := lt_of_cell (a := ⟨g6, 0, none⟩) Ky.out.1
        replace hzs : w11.heap.size < w17.heap.size := lt_of_cell (a := ⟨w11.heap.size, 0, none⟩) Ks.out.1
        replace hzt : w12.heap.size < w17.heap.size := lt_of_cell (a := ⟨w12.heap.size, 0, none⟩) Kt.out.1
        replace hzi : w13.heap.size < w17.heap.size := lt_of_cell (a := ⟨w13.heap.size, 0, none⟩) Ki.out.1
        replace hzc : w14.heap.size < w17.heap.size := lt_of_cell (a := ⟨w14.heap.size, 0, none⟩) Kc.out.1
        replace hzp : w15.heap.size < w17.heap.size := lt_of_cell (a := ⟨w15.heap.size, 0, none⟩) Kp.out.1
        have hzq : w16.heap.size < w17.heap.size := lt_of_cell (a := ⟨w16.heap.size, 0, none⟩) Kq.out.1
        go_wp2_with fail
        refine (Rr.out _ _ _ _ _ _ _ _ _ (Sx1.out.alloc _) (Sx2.out.alloc _) (Sy1.out.alloc _) (Sy2.out.alloc _)).mono ?_
        rintro e w18 ⟨A18, c18, B18, d18, rfl, hs1, hs2, hb⟩
        clear qx0 qx1 qx2 qx3 qy0 qy1 qy2 qy3
        have Ka' : Hid (Cf w18 w.heap.size na Aa la.length ca nb Ab lb.length cb) := Cf.keep (Cf.keep Ka.out (blw1 _ _)) hb
        have Kb' : Hid (Cf w18 (w.heap.size + 1) nc Ac lc.length cc nd Ad ld.length cd) := Cf.keep (Cf.keep Kb.out (blw1 _ _)) hb
        have Kx' : Hid (Cf w18 g5 na Ax la.length cx nb Ay lb.length cy) := Cf.keep (Cf.keep Kx.out (blw1 _ _)) hb
        have Ky' : Hid (Cf w18 g6 nc Au lc.length cu nd Av ld.length cv) := Cf.keep (Cf.keep Ky.out (blw1 _ _)) hb
        have Ks' : Hid (Cf w18 w11.heap.size ns A11 ls.length c11 ms B11 js.length d11) := Cf.keep (Cf.keep Ks.out (blw1 _ _)) hb
        have Kt' : Hid (Cf w18 w12.heap.size ns A12 ls.length c12 ms B12 js.length d12) := Cf.keep (Cf.keep Kt.out (blw1 _ _)) hb
        have Ki' : Hid (Cf w18 w13.heap.size ni A13 li.length c13 mi B13 ji.length d13) := Cf.keep (Cf.keep Ki.out (blw1 _ _)) hb
        have Kc' : Hid (Cf w18 w14.heap.size ni A14 li.length c14 mi B14 ji.length d14) := Cf.keep (Cf.keep Kc.out (blw1 _ _)) hb
        have Kp' : Hid (Cf w18 w15.heap.size np A15 lp.length c15 mp B15 jp.length d15) := Cf.keep (Cf.keep Kp.out (blw1 _ _)) hb
        have Kq' : Hid (Cf w18 w16.heap.size np A16 lp.length c16 mp B16 jp.length d16) := Cf.keep (Cf.keep Kq.out (blw1 _ _)) hb
        have Kr' : Hid (Cf w18 w17.heap.size nr A17 lr.length c17 mr B17 jr.length d17) := Cf.keep (Cf.fresh (by simp) _ _ _ _ _ _ _ _ _) hb
        have Sa1' : Hid (Sl w18 Aa la ca) := Sl.below (Sa1.out.alloc _) hb
        have Sa2' : Hid (Sl w18 Ab lb cb) := Sl.below (Sa2.out.alloc _) hb
        have Sb1' : Hid (Sl w18 Ac lc cc) := Sl.below (Sb1.out.alloc _) hb
        have Sb2' : Hid (Sl w18 Ad ld cd) := Sl.below (Sb2.out.alloc _) hb
        have Sx1' : Hid (Sl w18 Ax la cx) := Sl.below (Sx1.out.alloc _) hb
        have Sx2' : Hid (Sl w18 Ay lb cy) := Sl.below (Sx2.out.alloc _) hb
        have Sy1' : Hid (Sl w18 Au lc cu) := Sl.below (Sy1.out.alloc _) hb
        have Sy2' : Hid (Sl w18 Av ld cv) := Sl.below (Sy2.out.alloc _) hb
        have Ss1' : Hid (Sl w18 A11 ls c11) := Sl.below (Ss1.out.alloc _) hb
        have Ss2' : Hid (Sl w18 B11 js d11) := Sl.below (Ss2.out.alloc _) hb
        have St1' : Hid (Sl w18 A12 ls c12) := Sl.below (St1.out.alloc _) hb
        have St2' : Hid (Sl w18 B12 js d12) := Sl.below (St2.out.alloc _) hb
        have Si1' : Hid (Sl w18 A13 li c13) := Sl.below (Si1.out.alloc _) hb
        have Si2' : Hid (Sl w18 B13 ji d13) := Sl.below (Si2.out.alloc _) hb
        have Sc1' : Hid (Sl w18 A14 li c14) := Sl.below (Sc1.out.alloc _) hb
        have Sc2' : Hid (Sl w18 B14 ji d14) := Sl.below (Sc2.out.alloc _) hb
        have Sp1' : Hid (Sl w18 A15 lp c15) := Sl.below (Sp1.out.alloc _) hb
        have Sp2' : Hid (Sl w18 B15 jp d15) := Sl.below (Sp2.out.alloc _) hb
        have Sq1' : Hid (Sl w18 A16 lp c16) := Sl.below (Sq1.out.alloc _) hb
        have Sq2' : Hid (Sl w18 B16 jp d16) := Sl.below (Sq2.out.alloc _) hb
        have Sr1' : Hid (Sl w18 A17 lr c17) := Sl.below (Sr1.out.alloc _) hb
        have Sr2' : Hid (Sl w18 B17 jr d17) := Sl.below (Sr2.out.alloc _) hb
        have B' : Hid (Below w.heap.size w w18) := below_mono (below_mono B.out (blw1 _ _)) hb
        clear hb Ka Kb Kx Ky Ks Kt Ki Kc Kp Kq Sa1 Sa2 Sb1 Sb2 Sx1 Sx2 Sy1 Sy2 Ss1 Ss2 St1 St2 Si1 Si2 Sc1 Sc2 Sp1 Sp2 Sq1 Sq2 Sr1 Sr2 B
        have Ka := Ka'
        have Kb := Kb'
        have Kx := Kx'
        have Ky := Ky'
        have Ks := Ks'
        have Kt := Kt'
        have Ki := Ki'
        have Kc := Kc'
        have Kp := Kp'
        have Kq := Kq'
        have Kr := Kr'
        have Sa1 := Sa1'
        have Sa2 := Sa2'
        have Sb1 := Sb1'
        have Sb2 := Sb2'
        have Sx1 := Sx1'
        have Sx2 := Sx2'
        have Sy1 := Sy1'
        have Sy2 := Sy2'
        have Ss1 := Ss1'
        have Ss2 := Ss2'
        have St1 := St1'
        have St2 := St2'
        have Si1 := Si1'
        have Si2 := Si2'
        have Sc1 := Sc1'
        have Sc2 := Sc2'
        have Sp1 := Sp1'
        have Sp2 := Sp2'
        have Sq1 := Sq1'
        have Sq2 := Sq2'
        have Sr1 := Sr1'
        have Sr2 := Sr2'
        have B := B'
        clear Ka' Kb' Kx' Ky' Ks' Kt' Ki' Kc' Kp' Kq' Kr' Sa1' Sa2' Sb1' Sb2' Sx1' Sx2' Sy1' Sy2' Ss1' Ss2' St1' St2' Si1' Si2' Sc1' Sc2' Sp1' Sp2' Sq1' Sq2' Sr1' Sr2' B'
        (try dsimp only at hs1 hs2)
        (try dsimp only)
        have Su1 : Hid (Sl w18 A18 lr c18) := hs1
        clear hs1
        have Su2 : Hid (Sl w18 B18 jr d18) := hs2
        clear hs2
        obtain ⟨qa0, qa1, qa2, qa3⟩ := Ka.out
        obtain ⟨qb0, qb1, qb2, qb3⟩ := Kb.out
        replace hza : w.heap.size < w18.heap.size := lt_of_cell (a := ⟨w.heap.size, 0, none⟩) Ka.out.1
        replace hzb : w.heap.size + 1 < w18.heap.size := lt_of_cell (a := ⟨w.heap.size + 1, 0, none⟩) Kb.out.1
        replace hzx : g5 < w18.heap.size := lt_of_cell (a := ⟨g5, 0, none⟩) Kx.out.1
        replace hzy : g6 < w18.heap.size := lt_of_cell (a := ⟨g6, 0, none⟩) Ky.out.1
        replace hzs : w11.heap.size < w18.heap.size := lt_of_cell (a := ⟨w11.heap.size, 0, none⟩) Ks.out.1
        replace hzt : w12.heap.size < w18.heap.size := lt_of_cell (a := ⟨w12.heap.size, 0, none⟩) Kt.out.1
        replace hzi : w13.heap.size < w18.heap.size := lt_of_cell (a := ⟨w13.heap.size, 0, none⟩) Ki.out.1
        replace hzc : w14.heap.size < w18.heap.size := lt_of_cell (a := ⟨w14.heap.size, 0, none⟩) Kc.out.1
        replace hzp : w15.heap.size < w18.heap.size := lt_of_cell (a := ⟨w15.heap.size, 0, none⟩) Kp.out.1
        replace hzq : w16.heap.size < w18.heap.size := lt_of_cell (a := ⟨w16.heap.size, 0, none⟩) Kq.out.1
        have hzr : w17.heap.size < w18.heap.size := lt_of_cell (a := ⟨w17.heap.size, 0, none⟩) Kr.out.1
        go_wp2_with fail
        refine (Pn.out _ _ _ _ _ (Sa1.out.alloc _) (Sa2.out.alloc _)).mono ?_
        rintro e w19 ⟨A19, c19, B19, d19, rfl, hs1, hs2, hb⟩
        clear qa0 qa1 qa2 qa3 qb0 qb1 qb2 qb3
        have Ka' : Hid (Cf w19 w.heap.size na Aa la.length ca nb Ab lb.length cb) := Cf.keep (Cf.keep Ka.out (blw1 _ _)) hb
        have Kb' : Hid (Cf w19 (w.heap.size + 1) nc Ac lc.length cc nd Ad ld.length cd) := Cf.keep (Cf.keep Kb.out (blw1 _ _)) hb
        have Kx' : Hid (Cf w19 g5 na Ax la.length cx nb Ay lb.length cy) := Cf.keep (Cf.keep Kx.out (blw1 _ _)) hb
        have Ky' : Hid (Cf w19 g6 nc Au lc.length cu nd Av ld.length cv) := Cf.keep (Cf.keep Ky.out (blw1 _ _)) hb
        have Ks' : Hid (Cf w19 w11.heap.size ns A11 ls.length c11 ms B11 js.length d11) := Cf.keep (Cf.keep Ks.out (blw1 _ _)) hb
        have Kt' : Hid (Cf w19 w12.heap.size ns A12 ls.length c12 ms B12 js.length d12) := Cf.keep (Cf.keep Kt.out (blw1 _ _)) hb
        have Ki' : Hid (Cf w19 w13.heap.size ni A13 li.length c13 mi B13 ji.length d13) := Cf.keep (Cf.keep Ki.out (blw1 _ _)) hb
        have Kc' : Hid (Cf w19 w14.heap.size ni A14 li.length c14 mi B14 ji.length d14) := Cf.keep (Cf.keep Kc.out (blw1 _ _)) hb
        have Kp' : Hid (Cf w19 w15.heap.size np A15 lp.length c15 mp B15 jp.length d15) := Cf.keep (Cf.keep Kp.out (blw1 _ _)) hb
        have Kq' : Hid (Cf w19 w16.heap.size np A16 lp.length c16 mp B16 jp.length d16) := Cf.keep (Cf.keep Kq.out (blw1 _ _)) hb
        have Kr' : Hid (Cf w19 w17.heap.size nr A17 lr.length c17 mr B17 jr.length d17) := Cf.keep (Cf.keep Kr.out (blw1 _ _)) hb
        have Ku' : Hid (Cf w19 w18.heap.size nr A18 lr.length c18 mr B18 jr.length d18) := Cf.keep (Cf.fresh (by simp) _ _ _ _ _ _ _ _ _) hb
        have Sa1' : Hid (Sl w19 Aa la ca) := Sl.below (Sa1.out.alloc _) hb
        have Sa2' : Hid (Sl w19 Ab lb cb) := Sl.below (Sa2.out.alloc _) hb
        have Sb1' : Hid (Sl w19 Ac lc cc) := Sl.below (Sb1.out.alloc _) hb
        have Sb2' : Hid (Sl w19 Ad ld cd) := Sl.below (Sb2.out.alloc _) hb
        have Sx1' : Hid (Sl w19 Ax la cx) := Sl.below (Sx1.out.alloc _) hb
        have Sx2' : Hid (Sl w19 Ay lb cy) := Sl.below (Sx2.out.alloc _) hb
        have Sy1' : Hid (Sl w19 Au lc cu) := Sl.below (Sy1.out.alloc _) hb
        have Sy2' : Hid (Sl w19 Av ld cv) := Sl.below (Sy2.out.alloc _) hb
        have Ss1' : Hid (Sl w19 A11 ls c11) := Sl.below (Ss1.out.alloc _) hb
        have Ss2' : Hid (Sl w19 B11 js d11) := Sl.below (Ss2.out.alloc _) hb
        have St1' : Hid (Sl w19 A12 ls c12) := Sl.below (St1.out.alloc _) hb
        have St2' : Hid (Sl w19 B12 js d12) := Sl.below (St2.out.alloc _) hb
        have Si1' : Hid (Sl w19 A13 li c13) := Sl.below (Si1.out.alloc _) hb
        have Si2' : Hid (Sl w19 B13 ji d13) := Sl.below (Si2.out.alloc _) hb
        have Sc1' : Hid (Sl w19 A14 li c14) := Sl.below (Sc1.out.alloc _) hb
        have Sc2' : Hid (Sl w19 B14 ji d14) := Sl.below (Sc2.out.alloc _) hb
        have Sp1' : Hid (Sl w19 A15 lp c15) := Sl.below (Sp1.out.alloc _) hb
        have Sp2' : Hid (Sl w19 B15 jp d15) := Sl.below (Sp2.out.alloc _) hb
        have Sq1' : Hid (Sl w19 A16 lp c16) := Sl.below (Sq1.out.alloc _) hb
        have Sq2' : Hid (Sl w19 B16 jp d16) := Sl.below (Sq2.out.alloc _) hb
        have Sr1' : Hid (Sl w19 A17 lr c17) := Sl.below (Sr1.out.alloc _) hb
        have Sr2' : Hid (Sl w19 B17 jr d17) := Sl.below (Sr2.out.alloc _) hb
        have Su1' : Hid (Sl w19 A18 lr c18) := Sl.below (Su1.out.alloc _) hb
        have Su2' : Hid (Sl w19 B18 jr d18) := Sl.below (Su2.out.alloc _) hb
        have B' : Hid (Below w.heap.size w w19) := below_mono (below_mono B.out (blw1 _ _)) hb
        clear hb Ka Kb Kx Ky Ks Kt Ki Kc Kp Kq Kr Sa1 Sa2 Sb1 Sb2 Sx1 Sx2 Sy1 Sy2 Ss1 Ss2 St1 St2 Si1 Si2 Sc1 Sc2 Sp1 Sp2 Sq1 Sq2 Sr1 Sr2 Su1 Su2 B
        have Ka := Ka'
        have Kb := Kb'
        have Kx := Kx'
        have Ky := Ky'
        have Ks := Ks'
        have Kt := Kt'
        have Ki := Ki'
        have Kc := Kc'
        have Kp := Kp'
        have Kq := Kq'
        have Kr := Kr'
        have Ku := Ku'
        have Sa1 := Sa1'
        have Sa2 := Sa2'
        have Sb1 := Sb1'
        have Sb2 := Sb2'
        have Sx1 := Sx1'
        have Sx2 := Sx2'
        have Sy1 := Sy1'
        have Sy2 := Sy2'
        have Ss1 := Ss1'
        have Ss2 := Ss2'
        have St1 := St1'
        have St2 := St2'
        have Si1 := Si1'
        have Si2 := Si2'
        have Sc1 := Sc1'
        have Sc2 := Sc2'
        have Sp1 := Sp1'
        have Sp2 := Sp2'
        have Sq1 := Sq1'
        have Sq2 := Sq2'
        have Sr1 := Sr1'
        have Sr2 := Sr2'
        have Su1 := Su1'
        have Su2 := Su2'
        have B := B'
        clear Ka' Kb' Kx' Ky' Ks' Kt' Ki' Kc' Kp' Kq' Kr' Ku' Sa1' Sa2' Sb1' Sb2' Sx1' Sx2' Sy1' Sy2' Ss1' Ss2' St1' St2' Si1' Si2' Sc1' Sc2' Sp1' Sp2' Sq1' Sq2' Sr1' Sr2' Su1' Su2' B'
        (try dsimp only at hs1 hs2)
        (try dsimp only)
        have Sn1 : Hid (Sl w19 A19 ln c19) := hs1
        clear hs1
        have Sn2 : Hid (Sl w19 B19 jn d19) := hs2
        clear hs2
        obtain ⟨qx0, qx1, qx2, qx3⟩ := Kx.out
        obtain ⟨qy0, qy1, qy2, qy3⟩ := Ky.out
        replace hza : w.heap.size < w19.heap.size := lt_of_cell (a := ⟨w.heap.size, 0, none⟩) Ka.out.1
        replace hzb : w.heap.size + 1 < w19.heap.size := lt_of_cell (a := ⟨w.heap.size + 1, 0, none⟩) Kb.out.1
        replace hzx : g5 < w19.heap.size := lt_of_cell (a := ⟨g5, 0, none⟩) Kx.out.1
        replace hzy : g6 < w19.heap.size := lt_of_cell (a := ⟨g6, 0, none⟩) Ky.out.1
        replace hzs : w11.heap.size < w19.heap.size := lt_of_cell (a := ⟨w11.heap.size, 0, none⟩) Ks.out.1
        replace hzt : w12.heap.size < w19.heap.size := lt_of_cell (a := ⟨w12.heap.size, 0, none⟩) Kt.out.1
        replace hzi : w13.heap.size < w19.heap.size := lt_of_cell (a := ⟨w13.heap.size, 0, none⟩) Ki.out.1
        replace hzc : w14.heap.size < w19.heap.size := lt_of_cell (a := ⟨w14.heap.size, 0, none⟩) Kc.out.1
        replace hzp : w15.heap.size < w19.heap.size := lt_of_cell (a := ⟨w15.heap.size, 0, none⟩) Kp.out.1
        replace hzq : w16.heap.size < w19.heap.size := lt_of_cell (a := ⟨w16.heap.size, 0, none⟩) Kq.out.1
        replace hzr : w17.heap.size < w19.heap.size := lt_of_cell (a := ⟨w17.heap.size, 0, none⟩) Kr.out.1
        have hzu : w18.heap.size < w19.heap.size := lt_of_cell (a := ⟨w18.heap.size, 0, none⟩) Ku.out.1
        go_wp2_with fail
        refine (Rn.out _ _ _ _ _ (Sx1.out.alloc _) (Sx2.out.alloc _)).mono ?_
        rintro e w20 ⟨A20, c20, B20, d20, rfl, hs1, hs2, hb⟩
        clear qx0 qx1 qx2 qx3 qy0 qy1 qy2 qy3
        have Ka' : Hid (Cf w20 w.heap.size na Aa la.length ca nb Ab lb.length cb) := Cf.keep (Cf.keep Ka.out (blw1 _ _)) hb
        have Kb' : Hid (Cf w20 (w.heap.size + 1) nc Ac lc.length cc nd Ad ld.length cd) := Cf.keep (Cf.keep Kb.out (blw1 _ _)) hb
        have Kx' : Hid (Cf w20 g5 na Ax la.length cx nb Ay lb.length cy) := Cf.keep (Cf.keep Kx.out (blw1 _ _)) hb
        have Ky' : Hid (Cf w20 g6 nc Au lc.length cu nd Av ld.length cv) := Cf.keep (Cf.keep Ky.out (blw1 _ _)) hb
        have Ks' : Hid (Cf w20 w11.heap.size ns A11 ls.length c11 ms B11 js.length d11) := Cf.keep (Cf.keep Ks.out (blw1 _ _)) hb
        have Kt' : Hid (Cf w20 w12.heap.size ns A12 ls.length c12 ms B12 js.length d12) := Cf.keep (Cf.keep Kt.out (blw1 _ _)) hb
        have Ki' : Hid (Cf w20 w13.heap.size ni A13 li.length c13 mi B13 ji.length d13) := Cf.keep (Cf.keep Ki.out (blw1 _ _)) hb
        have Kc' : Hid (Cf w20 w14.heap.size ni A14 li.length c14 mi B14 ji.length d14) := Cf.keep (Cf.keep Kc.out (blw1 _ _)) hb
        have Kp' : Hid (Cf w20 w15.heap.size np A15 lp.length c15 mp B15 jp.length d15) := Cf.keep (Cf.keep Kp.out (blw1 _ _)) hb
        have Kq' : Hid (Cf w20 w16.heap.size np A16 lp.length c16 mp B16 jp.length d16) := Cf.keep (Cf.keep Kq.out (blw1 _ _)) hb
        have Kr' : Hid (Cf w20 w17.heap.size nr A17 lr.length c17 mr B17 jr.length d17) := Cf.keep (Cf.keep Kr.out (blw1 _ _)) hb
        have Ku' : Hid (Cf w20 w18.heap.size nr A18 lr.length c18 mr B18 jr.length d18) := Cf.keep (Cf.keep Ku.out (blw1 _ _)) hb
        have Kn' : Hid (Cf w20 w19.heap.size nn A19 ln.length c19 mn B19 jn.length d19) := Cf.keep (Cf.fresh (by simp) _ _ _ _ _ _ _ _ _) hb
        have Sa1' : Hid (Sl w20 Aa la ca) := Sl.below (Sa1.out.alloc _) hb
        have Sa2' : Hid (Sl w20 Ab lb cb) := Sl.below (Sa2.out.alloc _) hb
        have Sb1' : Hid (Sl w20 Ac lc cc) := Sl.below (Sb1.out.alloc _) hb
        have Sb2' : Hid (Sl w20 Ad ld cd) := Sl.below (Sb2.out.alloc _) hb
        have Sx1' : Hid (Sl w20 Ax la cx) := Sl.below (Sx1.out.alloc _) hb
        have Sx2' : Hid (Sl w20 Ay lb cy) := Sl.below (Sx2.out.alloc _) hb
        have Sy1' : Hid (Sl w20 Au lc cu) := Sl.below (Sy1.out.alloc _) hb
        have Sy2' : Hid (Sl w20 Av ld cv) := Sl.below (Sy2.out.alloc _) hb
        have Ss1' : Hid (Sl w20 A11 ls c11) := Sl.below (Ss1.out.alloc _) hb
        have Ss2' : Hid (Sl w20 B11 js d11) := Sl.below (Ss2.out.alloc _) hb
        have St1' : Hid (Sl w20 A12 ls c12) := Sl.below (St1.out.alloc _) hb
        have St2' : Hid (Sl w20 B12 js d12) := Sl.below (St2.out.alloc _) hb
        have Si1' : Hid (Sl w20 A13 li c13) := Sl.below (Si1.out.alloc _) hb
        have Si2' : Hid (Sl w20 B13 ji d13) := Sl.below (Si2.out.alloc _) hb
        have Sc1' : Hid (Sl w20 A14 li c14) := Sl.below (Sc1.out.alloc _) hb
        have Sc2' : Hid (Sl w20 B14 ji d14) := Sl.below (Sc2.out.alloc _) hb
        have Sp1' : Hid (Sl w20 A15 lp c15) := Sl.below (Sp1.out.alloc _) hb
        have Sp2' : Hid (Sl w20 B15 jp d15) := Sl.below (Sp2.out.alloc _) hb
        have Sq1' : Hid (Sl w20 A16 lp c16) := Sl.below (Sq1.out.alloc _) hb
        have Sq2' : Hid (Sl w20 B16 jp d16) := Sl.below (Sq2.out.alloc _) hb
        have Sr1' : Hid (Sl w20 A17 lr c17) := Sl.below (Sr1.out.alloc _) hb
        have Sr2' : Hid (Sl w20 B17 jr d17) := Sl.below (Sr2.out.alloc _) hb
        have Su1' : Hid (Sl w20 A18 lr c18) := Sl.below (Su1.out.alloc _) hb
        have Su2' : Hid (Sl w20 B18 jr d18) := Sl.below (Su2.out.alloc _) hb
        have Sn1' : Hid (Sl w20 A19 ln c19) := Sl.below (Sn1.out.alloc _) hb
        have Sn2' : Hid (Sl w20 B19 jn d19) := Sl.below (Sn2.out.alloc _) hb
        have B' : Hid (Below w.heap.size w w20) := below_mono (below_mono B.out (blw1 _ _)) hb
        clear hb Ka Kb Kx Ky Ks Kt Ki Kc Kp Kq Kr Ku Sa1 Sa2 Sb1 Sb2 Sx1 Sx2 Sy1 Sy2 Ss1 Ss2 St1 St2 Si1 Si2 Sc1 Sc2 Sp1 Sp2 Sq1 Sq2 Sr1 Sr2 Su1 Su2 Sn1 Sn2 B
        have Ka := Ka'
        have Kb := Kb'
        have Kx := Kx'
        have Ky := Ky'
        have Ks := Ks'
        have Kt := Kt'
        have Ki := Ki'
        have Kc := Kc'
        have Kp := Kp'
        have Kq := Kq'
        have Kr := Kr'
        have Ku := Ku'
        have Kn := Kn'
        have Sa1 := Sa1'
        have Sa2 := Sa2'
        have Sb1 := Sb1'
        have Sb2 := Sb2'
        have Sx1 := Sx1'
        have Sx2 := Sx2'
        have Sy1 := Sy1'
        have Sy2 := Sy2'
        have Ss1 := Ss1'
        have Ss2 := Ss2'
        have St1 := St1'
        have St2 := St2'
        have Si1 := Si1'
        have Si2 := Si2'
        have Sc1 := Sc1'
        have Sc2 := Sc2'
        have Sp1 := Sp1'
        have Sp2 := Sp2'
        have Sq1 := Sq1'
        have Sq2 := Sq2'
        have Sr1 := Sr1'
        have Sr2 := Sr2'
        have Su1 := Su1'
        have Su2 := Su2'
        have Sn1 := Sn1'
        have Sn2 := Sn2'
        have B := B'
        clear Ka' Kb' Kx' Ky' Ks' Kt' Ki' Kc' Kp' Kq' Kr' Ku' Kn' Sa1' Sa2' Sb1' Sb2' Sx1' Sx2' Sy1' Sy2' Ss1' Ss2' St1' St2' Si1' Si2' Sc1' Sc2' Sp1' Sp2' Sq1' Sq2' Sr1' Sr2' Su1' Su2' Sn1' Sn2' B'
        (try dsimp only at hs1 hs2)
        (try dsimp only)
        have Sv1 : Hid (Sl w20 A20 ln c20) := hs1
        clear hs1
        have Sv2 : Hid (Sl w20 B20 jn d20) := hs2
        clear hs2
        obtain ⟨qa0, qa1, qa2, qa3⟩ := Ka.out
        obtain ⟨qb0, qb1, qb2, qb3⟩ := Kb.out
        replace hza : w.heap.size < w20.heap.size := lt_of_cell (a := ⟨w.heap.size, 0, none⟩) Ka.out.1
        replace hzb : w.heap.size + 1 < w20.heap.size := lt_of_cell (a := ⟨w.heap.size + 1, 0, none⟩) Kb.out.1
        replace hzx : g5 < w20.heap.size := lt_of_cell (a := ⟨g5, 0, none⟩) Kx.out.1
        replace hzy : g6 < w20.heap.size := lt_of_cell (a := ⟨g6, 0, none⟩) Ky.out.1
        replace hzs : w11.heap.size < w20.heap.size := lt_of_cell (a := ⟨w11.heap.size, 0, none⟩) Ks.out.1
        replace hzt : w12.heap.size < w20.heap.size := lt_of_cell (a := ⟨w12.heap.size, 0, none⟩) Kt.out.1
        replace hzi : w13.heap.size < w20.heap.size := lt_of_cell (a := ⟨w13.heap.size, 0, none⟩) Ki.out.1
        replace hzc : w14.heap.size < w20.heap.size := lt_of_cell (a := ⟨w14.heap.size, 0, none⟩) Kc.out.1
        replace hzp : w15.heap.size < w20.heap.size := lt_of_cell (a := ⟨w15.heap.size, 0, none⟩) Kp.out.1
        replace hzq : w16.heap.size < w20.heap.size := lt_of_cell (a := ⟨w16.heap.size, 0, none⟩) Kq.out.1
        replace hzr : w17.heap.size < w20.heap.size := lt_of_cell (a := ⟨w17.heap.size, 0, none⟩) Kr.out.1
        replace hzu : w18.heap.size < w20.heap.size := lt_of_cell (a := ⟨w18.heap.size, 0, none⟩) Ku.out.1
        have hzn : w19.heap.size < w20.heap.size := lt_of_cell (a := ⟨w19.heap.size, 0, none⟩) Kn.out.1
        go_wp2_with fail
        refine (Pz.out _ _ _ _ _ _ _ _ _ (Sa1.out.alloc _) (Sa2.out.alloc _) (Sb1.out.alloc _) (Sb2.out.alloc _)).mono ?_
        rintro e w21 ⟨rfl, hb⟩
        clear qa0 qa1 qa2 qa3 qb0 qb1 qb2 qb3
        have Ka' : Hid (Cf w21 w.heap.size na Aa la.length ca nb Ab lb.length cb) := Cf.keep (Cf.keep Ka.out (blw1 _ _)) hb
        have Kb' : Hid (Cf w21 (w.heap.size + 1) nc Ac lc.length cc nd Ad ld.length cd) := Cf.keep (Cf.keep Kb.out (blw1 _ _)) hb
        have Kx' : Hid (Cf w21 g5 na Ax la.length cx nb Ay lb.length cy) := Cf.keep (Cf.keep Kx.out (blw1 _ _)) hb
        have Ky' : Hid (Cf w21 g6 nc Au lc.length cu nd Av ld.length cv) := Cf.keep (Cf.keep Ky.out (blw1 _ _)) hb
        have Ks' : Hid (Cf w21 w11.heap.size ns A11 ls.length c11 ms B11 js.length d11) := Cf.keep (Cf.keep Ks.out (blw1 _ _)) hb
        have Kt' : Hid (Cf w21 w12.heap.size ns A12 ls.length c12 ms B12 js.length d12) := Cf.keep (Cf.keep Kt.out (blw1 _ _)) hb
        have Ki' : Hid (Cf w21 w13.heap.size ni A13 li.length c13 mi B13 ji.length d13) := Cf.keep (Cf.keep Ki.out (blw1 _ _)) hb
        have Kc' : Hid (Cf w21 w14.heap.size ni A14 li.length c14 mi B14 ji.length d14) := Cf.keep (Cf.keep Kc.out (blw1 _ _)) hb
        have Kp' : Hid (Cf w21 w15.heap.size np A15 lp.length c15 mp B15 jp.length d15) := Cf.keep (Cf.keep Kp.out (blw1 _ _)) hb
        have Kq' : Hid (Cf w21 w16.heap.size np A16 lp.length c16 mp B16 jp.length d16) := Cf.keep (Cf.keep Kq.out (blw1 _ _)) hb
        have Kr' : Hid (Cf w21 w17.heap.size nr A17 lr.length c17 mr B17 jr.length d17) := Cf.keep (Cf.keep Kr.out (blw1 _ _)) hb
        have Ku' : Hid (Cf w21 w18.heap.size nr A18 lr.length c18 mr B18 jr.length d18) := Cf.keep (Cf.keep Ku.out (blw1 _ _)) hb
        have Kn' : Hid (Cf w21 w19.heap.size nn A19 ln.length c19 mn B19 jn.length d19) := Cf.keep (Cf.keep Kn.out (blw1 _ _)) hb
        have Kv' : Hid (Cf w21 w20.heap.size nn A20 ln.length c20 mn B20 jn.length d20) := Cf.keep (Cf.fresh (by simp) _ _ _ _ _ _ _ _ _) hb
        have Sa1' : Hid (Sl w21 Aa la ca) := Sl.below (Sa1.out.alloc _) hb
        have Sa2' : Hid (Sl w21 Ab lb cb) := Sl.below (Sa2.out.alloc _) hb
        have Sb1' : Hid (Sl w21 Ac lc cc) := Sl.below (Sb1.out.alloc _) hb
        have Sb2' : Hid (Sl w21 Ad ld cd) := Sl.below (Sb2.out.alloc _) hb
        have Sx1' : Hid (Sl w21 Ax la cx) := Sl.below (Sx1.out.alloc _) hb
        have Sx2' : Hid (Sl w21 Ay lb cy) := Sl.below (Sx2.out.alloc _) hb
        have Sy1' : Hid (Sl w21 Au lc cu) := Sl.below (Sy1.out.alloc _) hb
        have Sy2' : Hid (Sl w21 Av ld cv) := Sl.below (Sy2.out.alloc _) hb
        have Ss1' : Hid (Sl w21 A11 ls c11) := Sl.below (Ss1.out.alloc _) hb
        have Ss2' : Hid (Sl w21 B11 js d11) := Sl.below (Ss2.out.alloc _) hb
        have St1' : Hid (Sl w21 A12 ls c12) := Sl.below (St1.out.alloc _) hb
        have St2' : Hid (Sl w21 B12 js d12) := Sl.below (St2.out.alloc _) hb
        have Si1' : Hid (Sl w21 A13 li c13) := Sl.below (Si1.out.alloc _) hb
        have Si2' : Hid (Sl w21 B13 ji d13) := Sl.below (Si2.out.alloc _) hb
        have Sc1' : Hid (Sl w21 A14 li c14) := Sl.below (Sc1.out.alloc _) hb
        have Sc2' : Hid (Sl w21 B14 ji d14) := Sl.below (Sc2.out.alloc _) hb
        have Sp1' : Hid (Sl w21 A15 lp c15) := Sl.below (Sp1.out.alloc _) hb
        have Sp2' : Hid (Sl w21 B15 jp d15) := Sl.below (Sp2.out.alloc _) hb
        have Sq1' : Hid (Sl w21 A16 lp c16) := Sl.below (Sq1.out.alloc _) hb
        have Sq2' : Hid (Sl w21 B16 jp d16) := Sl.below (Sq2.out.alloc _) hb
        have Sr1' : Hid (Sl w21 A17 lr c17) := Sl.below (Sr1.out.alloc _) hb
        have Sr2' : Hid (Sl w21 B17 jr d17) := Sl.below (Sr2.out.alloc _) hb
        have Su1' : Hid (Sl w21 A18 lr c18) := Sl.below (Su1.out.alloc _) hb
        have Su2' : Hid (Sl w21 B18 jr d18) := Sl.below (Su2.out.alloc _) hb
        have Sn1' : Hid (Sl w21 A19 ln c19) := Sl.below (Sn1.out.alloc _) hb
        have Sn2' : Hid (Sl w21 B19 jn d19) := Sl.below (Sn2.out.alloc _) hb
        have Sv1' : Hid (Sl w21 A20 ln c20) := Sl.below (Sv1.out.alloc _) hb
        have Sv2' : Hid (Sl w21 B20 jn d20) := Sl.below (Sv2.out.alloc _) hb
        have B' : Hid (Below w.heap.size w w21) := below_mono (below_mono B.out (blw1 _ _)) hb
        clear hb Ka Kb Kx Ky Ks Kt Ki Kc Kp Kq Kr Ku Kn Sa1 Sa2 Sb1 Sb2 Sx1 Sx2 Sy1 Sy2 Ss1 Ss2 St1 St2 Si1 Si2 Sc1 Sc2 Sp1 Sp2 Sq1 Sq2 Sr1 Sr2 Su1 Su2 Sn1 Sn2 Sv1 Sv2 B
        have Ka := Ka'
        have Kb := Kb'
        have Kx := Kx'
        have Ky := Ky'
        have Ks := Ks'
        have Kt := Kt'
        have Ki := Ki'
        have Kc := Kc'
        have Kp := Kp'
        have Kq := Kq'
        have Kr := Kr'
        have Ku := Ku'
        have Kn := Kn'
        have Kv := Kv'
        have Sa1 := Sa1'
        have Sa2 := Sa2'
        have Sb1 := Sb1'
        have Sb2 := Sb2'
        have Sx1 := Sx1'
        have Sx2 := Sx2'
        have Sy1 := Sy1'
        have Sy2 := Sy2'
        have Ss1 := Ss1'
        have Ss2 := Ss2'
        have St1 := St1'
        have St2 := St2'
        have Si1 := Si1'
        have Si2 := Si2'
        have Sc1 := Sc1'
        have Sc2 := Sc2'
        have Sp1 := Sp1'
        have Sp2 := Sp2'
        have Sq1 := Sq1'
        have Sq2 := Sq2'
        have Sr1 := Sr1'
        have Sr2 := Sr2'
        have Su1 := Su1'
        have Su2 := Su2'
        have Sn1 := Sn1'
        have Sn2 := Sn2'
        have Sv1 := Sv1'
        have Sv2 := Sv2'
        have B := B'
        clear Ka' Kb' Kx' Ky' Ks' Kt' Ki' Kc' Kp' Kq' Kr' Ku' Kn' Kv' Sa1' Sa2' Sb1' Sb2' Sx1' Sx2' Sy1' Sy2' Ss1' Ss2' St1' St2' Si1' Si2' Sc1' Sc2' Sp1' Sp2' Sq1' Sq2' Sr1' Sr2' Su1' Su2' Sn1' Sn2' Sv1' Sv2' B'
        obtain ⟨qx0, qx1, qx2, qx3⟩ := Kx.out
        obtain ⟨qy0, qy1, qy2, qy3⟩ := Ky.out
        replace hza : w.heap.size < w21.heap.size := lt_of_cell (a := ⟨w.heap.size, 0, none⟩) Ka.out.1
        replace hzb : w.heap.size + 1 < w21.heap.size := lt_of_cell (a := ⟨w.heap.size + 1, 0, none⟩) Kb.out.1
        replace hzx : g5 < w21.heap.size := lt_of_cell (a := ⟨g5, 0, none⟩) Kx.out.1
        replace hzy : g6 < w21.heap.size := lt_of_cell (a := ⟨g6, 0, none⟩) Ky.out.1
        replace hzs : w11.heap.size < w21.heap.size := lt_of_cell (a := ⟨w11.heap.size, 0, none⟩) Ks.out.1
        replace hzt : w12.heap.size < w21.heap.size := lt_of_cell (a := ⟨w12.heap.size, 0, none⟩) Kt.out.1
        replace hzi : w13.heap.size < w21.heap.size := lt_of_cell (a := ⟨w13.heap.size, 0, none⟩) Ki.out.1
        replace hzc : w14.heap.size < w21.heap.size := lt_of_cell (a := ⟨w14.heap.size, 0, none⟩) Kc.out.1
        replace hzp : w15.heap.size < w21.heap.size := lt_of_cell (a := ⟨w15.heap.size, 0, none⟩) Kp.out.1
        replace hzq : w16.heap.size < w21.heap.size := lt_of_cell (a := ⟨w16.heap.size, 0, none⟩) Kq.out.1
        replace hzr : w17.heap.size < w21.heap.size := lt_of_cell (a := ⟨w17.heap.size, 0, none⟩) Kr.out.1
        replace hzu : w18.heap.size < w21.heap.size := lt_of_cell (a := ⟨w18.heap.size, 0, none⟩) Ku.out.1
        replace hzn : w19.heap.size < w21.heap.size := lt_of_cell (a := ⟨w19.heap.size, 0, none⟩) Kn.out.1
        have hzv : w20.heap.size < w21.heap.size := lt_of_cell (a := ⟨w20.heap.size, 0, none⟩) Kv.out.1
        go_wp2_with fail
        refine (Rz.out _ _ _ _ _ _ _ _ _ Sx1.out Sx2.out Sy1.out Sy2.out).mono ?_
        rintro e w22 ⟨rfl, hb⟩
        clear qx0 qx1 qx2 qx3 qy0 qy1 qy2 qy3
        have Ka' : Hid (Cf w22 w.heap.size na Aa la.length ca nb Ab lb.length cb) := Cf.keep Ka.out hb
        have Kb' : Hid (Cf w22 (w.heap.size + 1) nc Ac lc.length cc nd Ad ld.length cd) := Cf.keep Kb.out hb
        have Kx' : Hid (Cf w22 g5 na Ax la.length cx nb Ay lb.length cy) := Cf.keep Kx.out hb
        have Ky' : Hid (Cf w22 g6 nc Au lc.length cu nd Av ld.length cv) := Cf.keep Ky.out hb
        have Ks' : Hid (Cf w22 w11.heap.size ns A11 ls.length c11 ms B11 js.length d11) := Cf.keep Ks.out hb
        have Kt' : Hid (Cf w22 w12.heap.size ns A12 ls.length c12 ms B12 js.length d12) := Cf.keep Kt.out hb
        have Ki' : Hid (Cf w22 w13.heap.size ni A13 li.length c13 mi B13 ji.length d13) := Cf.keep Ki.out hb
        have Kc' : Hid (Cf w22 w14.heap.size ni A14 li.length c14 mi B14 ji.length d14) := Cf.keep Kc.out hb
        have Kp' : Hid (Cf w22 w15.heap.size np A15 lp.length c15 mp B15 jp.length d15) := Cf.keep Kp.out hb
        have Kq' : Hid (Cf w22 w16.heap.size np A16 lp.length c16 mp B16 jp.length d16) := Cf.keep Kq.out hb
        have Kr' : Hid (Cf w22 w17.heap.size nr A17 lr.length c17 mr B17 jr.length d17) := Cf.keep Kr.out hb
        have Ku' : Hid (Cf w22 w18.heap.size nr A18 lr.length c18 mr B18 jr.length d18) := Cf.keep Ku.out hb
        have Kn' : Hid (Cf w22 w19.heap.size nn A19 ln.length c19 mn B19 jn.length d19) := Cf.keep Kn.out hb
        have Kv' : Hid (Cf w22 w20.heap.size nn A20 ln.length c20 mn B20 jn.length d20) := Cf.keep Kv.out hb
        have Sa1' : Hid (Sl w22 Aa la ca) := Sl.below Sa1.out hb
        have Sa2' : Hid (Sl w22 Ab lb cb) := Sl.below Sa2.out hb
        have Sb1' : Hid (Sl w22 Ac lc cc) := Sl.below Sb1.out hb
        have Sb2' : Hid (Sl w22 Ad ld cd) := Sl.below Sb2.out hb
        have Sx1' : Hid (Sl w22 Ax la cx) := Sl.below Sx1.out hb
        have Sx2' : Hid (Sl w22 Ay lb cy) := Sl.below Sx2.out hb
        have Sy1' : Hid (Sl w22 Au lc cu) := Sl.below Sy1.out hb
        have Sy2' : Hid (Sl w22 Av ld cv) := Sl.below Sy2.out hb
        have Ss1' : Hid (Sl w22 A11 ls c11) := Sl.below Ss1.out hb
        have Ss2' : Hid (Sl w22 B11 js d11) := Sl.below Ss2.out hb
        have St1' : Hid (Sl w22 A12 ls c12) := Sl.below St1.out hb
        have St2' : Hid (Sl w22 B12 js d12) := Sl.below St2.out hb
        have Si1' : Hid (Sl w22 A13 li c13) := Sl.below Si1.out hb
        have Si2' : Hid (Sl w22 B13 ji d13) := Sl.below Si2.out hb
        have Sc1' : Hid (Sl w22 A14 li c14) := Sl.below Sc1.out hb
        have Sc2' : Hid (Sl w22 B14 ji d14) := Sl.below Sc2.out hb
        have Sp1' : Hid (Sl w22 A15 lp c15) := Sl.below Sp1.out hb
        have Sp2' : Hid (Sl w22 B15 jp d15) := Sl.below Sp2.out hb
        have Sq1' : Hid (Sl w22 A16 lp c16) := Sl.below Sq1.out hb
        have Sq2' : Hid (Sl w22 B16 jp d16) := Sl.below Sq2.out hb
        have Sr1' : Hid (Sl w22 A17 lr c17) := Sl.below Sr1.out hb
        have Sr2' : Hid (Sl w22 B17 jr d17) := Sl.below Sr2.out hb
        have Su1' : Hid (Sl w22 A18 lr c18) := Sl.below Su1.out hb
        have Su2' : Hid (Sl w22 B18 jr d18) := Sl.below Su2.out hb
        have Sn1' : Hid (Sl w22 A19 ln c19) := Sl.below Sn1.out hb
        have Sn2' : Hid (Sl w22 B19 jn d19) := Sl.below Sn2.out hb
        have Sv1' : Hid (Sl w22 A20 ln c20) := Sl.below Sv1.out hb
        have Sv2' : Hid (Sl w22 B20 jn d20) := Sl.below Sv2.out hb
        have B' : Hid (Below w.heap.size w w22) := below_mono B.out hb
        clear hb Ka Kb Kx Ky Ks Kt Ki Kc Kp Kq Kr Ku Kn Kv Sa1 Sa2 Sb1 Sb2 Sx1 Sx2 Sy1 Sy2 Ss1 Ss2 St1 St2 Si1 Si2 Sc1 Sc2 Sp1 Sp2 Sq1 Sq2 Sr1 Sr2 Su1 Su2 Sn1 Sn2 Sv1 Sv2 B
        have Ka := Ka'
        have Kb := Kb'
        have Kx := Kx'
        have Ky := Ky'
        have Ks := Ks'
        have Kt := Kt'
        have Ki := Ki'
        have Kc := Kc'
        have Kp := Kp'
        have Kq := Kq'
        have Kr := Kr'
        have Ku := Ku'
        have Kn := Kn'
        have Kv := Kv'
        have Sa1 := Sa1'
        have Sa2 := Sa2'
        have Sb1 := Sb1'
        have Sb2 := Sb2'
        have Sx1 := Sx1'
        have Sx2 := Sx2'
        have Sy1 := Sy1'
        have Sy2 := Sy2'
        have Ss1 := Ss1'
        have Ss2 := Ss2'
        have St1 := St1'
        have St2 := St2'
        have Si1 := Si1'
        have Si2 := Si2'
        have Sc1 := Sc1'
        have Sc2 := Sc2'
        have Sp1 := Sp1'
        have Sp2 := Sp2'
        have Sq1 := Sq1'
        have Sq2 := Sq2'
        have Sr1 := Sr1'
        have Sr2 := Sr2'
        have Su1 := Su1'
        have Su2 := Su2'
        have Sn1 := Sn1'
        have Sn2 := Sn2'
        have Sv1 := Sv1'
        have Sv2 := Sv2'
        have B := B'
        clear Ka' Kb' Kx' Ky' Ks' Kt' Ki' Kc' Kp' Kq' Kr' Ku' Kn' Kv' Sa1' Sa2' Sb1' Sb2' Sx1' Sx2' Sy1' Sy2' Ss1' Ss2' St1' St2' Si1' Si2' Sc1' Sc2' Sp1' Sp2' Sq1' Sq2' Sr1' Sr2' Su1' Su2' Sn1' Sn2' Sv1' Sv2' B'
        obtain ⟨qs0, qs1, qs2, qs3⟩ := Ks.out
        obtain ⟨qt0, qt1, qt2, qt3⟩ := Kt.out
        replace hza : w.heap.size < w22.heap.size := lt_of_cell (a := ⟨w.heap.size, 0, none⟩) Ka.out.1
        replace hzb : w.heap.size + 1 < w22.heap.size := lt_of_cell (a := ⟨w.heap.size + 1, 0, none⟩) Kb.out.1
        replace hzx : g5 < w22.heap.size := lt_of_cell (a := ⟨g5, 0, none⟩) Kx.out.1
        replace hzy : g6 < w22.heap.size := lt_of_cell (a := ⟨g6, 0, none⟩) Ky.out.1
        replace hzs : w11.heap.size < w22.heap.size := lt_of_cell (a := ⟨w11.heap.size, 0, none⟩) Ks.out.1
        replace hzt : w12.heap.size < w22.heap.size := lt_of_cell (a := ⟨w12.heap.size, 0, none⟩) Kt.out.1
        replace hzi : w13.heap.size < w22.heap.size := lt_of_cell (a := ⟨w13.heap.size, 0, none⟩) Ki.out.1
        replace hzc : w14.heap.size < w22.heap.size := lt_of_cell (a := ⟨w14.heap.size, 0, none⟩) Kc.out.1
        replace hzp : w15.heap.size < w22.heap.size := lt_of_cell (a := ⟨w15.heap.size, 0, none⟩) Kp.out.1
        replace hzq : w16.heap.size < w22.heap.size := lt_of_cell (a := ⟨w16.heap.size, 0, none⟩) Kq.out.1
        replace hzr : w17.heap.size < w22.heap.size := lt_of_cell (a := ⟨w17.heap.size, 0, none⟩) Kr.out.1
        replace hzu : w18.heap.size < w22.heap.size := lt_of_cell (a := ⟨w18.heap.size, 0, none⟩) Ku.out.1
        replace hzn : w19.heap.size < w22.heap.size := lt_of_cell (a := ⟨w19.heap.size, 0, none⟩) Kn.out.1
        replace hzv : w20.heap.size < w22.heap.size := lt_of_cell (a := ⟨w20.heap.size, 0, none⟩) Kv.out.1
        go_wp2_with fail
        refine (fsame_self ns ms _ _ _ _ ls js _ _ _ _ _ Ss1.out Ss2.out St1.out St2.out).mono ?_
        rintro e w23 ⟨rfl, hb⟩
        clear qs0 qs1 qs2 qs3 qt0 qt1 qt2 qt3
        have Ka' : Hid (Cf w23 w.heap.size na Aa la.length ca nb Ab lb.length cb) := Cf.keep Ka.out hb
        have Kb' : Hid (Cf w23 (w.heap.size + 1) nc Ac lc.length cc nd Ad ld.length cd) := Cf.keep Kb.out hb
        have Kx' : Hid (Cf w23 g5 na Ax la.length cx nb Ay lb.length cy) := Cf.keep Kx.out hb
        have Ky' : Hid (Cf w23 g6 nc Au lc.length cu nd Av ld.length cv) := Cf.keep Ky.out hb
        have Ks' : Hid (Cf w23 w11.heap.size ns A11 ls.length c11 ms B11 js.length d11) := Cf.keep Ks.out hb
        have Kt' : Hid (Cf w23 w12.heap.size ns A12 ls.length c12 ms B12 js.length d12) := Cf.keep Kt.out hb
        have Ki' : Hid (Cf w23 w13.heap.size ni A13 li.length c13 mi B13 ji.length d13) := Cf.keep Ki.out hb
        have Kc' : Hid (Cf w23 w14.heap.size ni A14 li.length c14 mi B14 ji.length d14) := Cf.keep Kc.out hb
        have Kp' : Hid (Cf w23 w15.heap.size np A15 lp.length c15 mp B15 jp.length d15) := Cf.keep Kp.out hb
        have Kq' : Hid (Cf w23 w16.heap.size np A16 lp.length c16 mp B16 jp.length d16) := Cf.keep Kq.out hb
        have Kr' : Hid (Cf w23 w17.heap.size nr A17 lr.length c17 mr B17 jr.length d17) := Cf.keep Kr.out hb
        have Ku' : Hid (Cf w23 w18.heap.size nr A18 lr.length c18 mr B18 jr.length d18) := Cf.keep Ku.out hb
        have Kn' : Hid (Cf w23 w19.heap.size nn A19 ln.length c19 mn B19 jn.length d19) := Cf.keep Kn.out hb
        have Kv' : Hid (Cf w23 w20.heap.size nn A20 ln.length c20 mn B20 jn.length d20) := Cf.keep Kv.out hb
        have Sa1' : Hid (Sl w23 Aa la ca) := Sl.below Sa1.out hb
        have Sa2' : Hid (Sl w23 Ab lb cb) := Sl.below Sa2.out hb
        have Sb1' : Hid (Sl w23 Ac lc cc) := Sl.below Sb1.out hb
        have Sb2' : Hid (Sl w23 Ad ld cd) := Sl.below Sb2.out hb
        have Sx1' : Hid (Sl w23 Ax la cx) := Sl.below Sx1.out hb
        have Sx2' : Hid (Sl w23 Ay lb cy) := Sl.below Sx2.out hb
        have Sy1' : Hid (Sl w23 Au lc cu) := Sl.below Sy1.out hb
        have Sy2' : Hid (Sl w23 Av ld cv) := Sl.below Sy2.out hb
        have Ss1' : Hid (Sl w23 A11 ls c11) := Sl.below Ss1.out hb
        have Ss2' : Hid (Sl w23 B11 js d11) := Sl.below Ss2.out hb
        have St1' : Hid (Sl w23 A12 ls c12) := Sl.below St1.out hb
        have St2' : Hid (Sl w23 B12 js d12) := Sl.below St2.out hb
        have Si1' : Hid (Sl w23 A13 li c13) := Sl.below Si1.out hb
        have Si2' : Hid (Sl w23 B13 ji d13) := Sl.below Si2.out hb
        have Sc1' : Hid (Sl w23 A14 li c14) := Sl.below Sc1.out hb
        have Sc2' : Hid (Sl w23 B14 ji d14) := Sl.below Sc2.out hb
        have Sp1' : Hid (Sl w23 A15 lp c15) := Sl.below Sp1.out hb
        have Sp2' : Hid (Sl w23 B15 jp d15) := Sl.below Sp2.out hb
        have Sq1' : Hid (Sl w23 A16 lp c16) := Sl.below Sq1.out hb
        have Sq2' : Hid (Sl w23 B16 jp d16) := Sl.below Sq2.out hb
        have Sr1' : Hid (Sl w23 A17 lr c17) := Sl.below Sr1.out hb
        have Sr2' : Hid (Sl w23 B17 jr d17) := Sl.below Sr2.out hb
        have Su1' : Hid (Sl w23 A18 lr c18) := Sl.below Su1.out hb
        have Su2' : Hid (Sl w23 B18 jr d18) := Sl.below Su2.out hb
        have Sn1' : Hid (Sl w23 A19 ln c19) := Sl.below Sn1.out hb
        have Sn2' : Hid (Sl w23 B19 jn d19) := Sl.below Sn2.out hb
        have Sv1' : Hid (Sl w23 A20 ln c20) := Sl.below Sv1.out hb
        have Sv2' : Hid (Sl w23 B20 jn d20) := Sl.below Sv2.out hb
        have B' : Hid (Below w.heap.size w w23) := below_mono B.out hb
        clear hb Ka Kb Kx Ky Ks Kt Ki Kc Kp Kq Kr Ku Kn Kv Sa1 Sa2 Sb1 Sb2 Sx1 Sx2 Sy1 Sy2 Ss1 Ss2 St1 St2 Si1 Si2 Sc1 Sc2 Sp1 Sp2 Sq1 Sq2 Sr1 Sr2 Su1 Su2 Sn1 Sn2 Sv1 Sv2 B
        have Ka := Ka'
        have Kb := Kb'
        have Kx := Kx'
        have Ky := Ky'
        have Ks := Ks'
        have Kt := Kt'
        have Ki := Ki'
        have Kc := Kc'
        have Kp := Kp'
        have Kq := Kq'
        have Kr := Kr'
        have Ku := Ku'
        have Kn := Kn'
        have Kv := Kv'
        have Sa1 := Sa1'
        have Sa2 := Sa2'
        have Sb1 := Sb1'
        have Sb2 := Sb2'
        have Sx1 := Sx1'
        have Sx2 := Sx2'
        have Sy1 := Sy1'
        have Sy2 := Sy2'
        have Ss1 := Ss1'
        have Ss2 := Ss2'
        have St1 := St1'
        have St2 := St2'
        have Si1 := Si1'
        have Si2 := Si2'
        have Sc1 := Sc1'
        have Sc2 := Sc2'
        have Sp1 := Sp1'
        have Sp2 := Sp2'
        have Sq1 := Sq1'
        have Sq2 := Sq2'
        have Sr1 := Sr1'
        have Sr2 := Sr2'
        have Su1 := Su1'
        have Su2 := Su2'
        have Sn1 := Sn1'
        have Sn2 := Sn2'
        have Sv1 := Sv1'
        have Sv2 := Sv2'
        have B := B'
        clear Ka' Kb' Kx' Ky' Ks' Kt' Ki' Kc' Kp' Kq' Kr' Ku' Kn' Kv' Sa1' Sa2' Sb1' Sb2' Sx1' Sx2' Sy1' Sy2' Ss1' Ss2' St1' St2' Si1' Si2' Sc1' Sc2' Sp1' Sp2' Sq1' Sq2' Sr1' Sr2' Su1' Su2' Sn1' Sn2' Sv1' Sv2' B'
        obtain ⟨qi0, qi1, qi2, qi3⟩ := Ki.out
        obtain ⟨qc0, qc1, qc2, qc3⟩ := Kc.out
        replace hza : w.heap.size < w23.heap.size := lt_of_cell (a := ⟨w.heap.size, 0, none⟩) Ka.out.1
        replace hzb : w.heap.size + 1 < w23.heap.size := lt_of_cell (a := ⟨w.heap.size + 1, 0, none⟩) Kb.out.1
        replace hzx : g5 < w23.heap.size := lt_of_cell (a := ⟨g5, 0, none⟩) Kx.out.1
        replace hzy : g6 < w23.heap.size := lt_of_cell (a := ⟨g6, 0, none⟩) Ky.out.1
        replace hzs : w11.heap.size < w23.heap.size := lt_of_cell (a := ⟨w11.heap.size, 0, none⟩) Ks.out.1
        replace hzt : w12.heap.size < w23.heap.size := lt_of_cell (a := ⟨w12.heap.size, 0, none⟩) Kt.out.1
        replace hzi : w13.heap.size < w23.heap.size := lt_of_cell (a := ⟨w13.heap.size, 0, none⟩) Ki.out.1
        replace hzc : w14.heap.size < w23.heap.size := lt_of_cell (a := ⟨w14.heap.size, 0, none⟩) Kc.out.1
        replace hzp : w15.heap.size < w23.heap.size := lt_of_cell (a := ⟨w15.heap.size, 0, none⟩) Kp.out.1
        replace hzq : w16.heap.size < w23.heap.size := lt_of_cell (a := ⟨w16.heap.size, 0, none⟩) Kq.out.1
        replace hzr : w17.heap.size < w23.heap.size := lt_of_cell (a := ⟨w17.heap.size, 0, none⟩) Kr.out.1
        replace hzu : w18.heap.size < w23.heap.size := lt_of_cell (a := ⟨w18.heap.size, 0, none⟩) Ku.out.1
        replace hzn : w19.heap.size < w23.heap.size := lt_of_cell (a := ⟨w19.heap.size, 0, none⟩) Kn.out.1
        replace hzv : w20.heap.size < w23.heap.size := lt_of_cell (a := ⟨w20.heap.size, 0, none⟩) Kv.out.1
        go_wp2_with fail
        refine (fsame_self ni mi _ _ _ _ li ji _ _ _ _ _ Si1.out Si2.out Sc1.out Sc2.out).mono ?_
        rintro e w24 ⟨rfl, hb⟩
        clear qi0 qi1 qi2 qi3 qc0 qc1 qc2 qc3
        have Ka' : Hid (Cf w24 w.heap.size na Aa la.length ca nb Ab lb.length cb) := Cf.keep Ka.out hb
        have Kb' : Hid (Cf w24 (w.heap.size + 1) nc Ac lc.length cc nd Ad ld.length cd) := Cf.keep Kb.out hb
        have Kx' : Hid (Cf w24 g5 na Ax la.length cx nb Ay lb.length cy) := Cf.keep Kx.out hb
        have Ky' : Hid (Cf w24 g6 nc Au lc.length cu nd Av ld.length cv) := Cf.keep Ky.out hb
        have Ks' : Hid (Cf w24 w11.heap.size ns A11 ls.length c11 ms B11 js.length d11) := Cf.keep Ks.out hb
        have Kt' : Hid (Cf w24 w12.heap.size ns A12 ls.length c12 ms B12 js.length d12) := Cf.keep Kt.out hb
        have Ki' : Hid (Cf w24 w13.heap.size ni A13 li.length c13 mi B13 ji.length d13) := Cf.keep Ki.out hb
        have Kc' : Hid (Cf w24 w14.heap.size ni A14 li.length c14 mi B14 ji.length d14) := Cf.keep Kc.out hb
        have Kp' : Hid (Cf w24 w15.heap.size np A15 lp.length c15 mp B15 jp.length d15) := Cf.keep Kp.out hb
        have Kq' : Hid (Cf w24 w16.heap.size np A16 lp.length c16 mp B16 jp.length d16) := Cf.keep Kq.out hb
        have Kr' : Hid (Cf w24 w17.heap.size nr A17 lr.length c17 mr B17 jr.length d17) := Cf.keep Kr.out hb
        have Ku' : Hid (Cf w24 w18.heap.size nr A18 lr.length c18 mr B18 jr.length d18) := Cf.keep Ku.out hb
        have Kn' : Hid (Cf w24 w19.heap.size nn A19 ln.length c19 mn B19 jn.length d19) := Cf.keep Kn.out hb
        have Kv' : Hid (Cf w24 w20.heap.size nn A20 ln.length c20 mn B20 jn.length d20) := Cf.keep Kv.out hb
        have Sa1' : Hid (Sl w24 Aa la ca) := Sl.below Sa1.out hb
        have Sa2' : Hid (Sl w24 Ab lb cb) := Sl.below Sa2.out hb
        have Sb1' : Hid (Sl w24 Ac lc cc) := Sl.below Sb1.out hb
        have Sb2' : Hid (Sl w24 Ad ld cd) := Sl.below Sb2.out hb
        have Sx1' : Hid (Sl w24 Ax la cx) := Sl.below Sx1.out hb
        have Sx2' : Hid (Sl w24 Ay lb cy) := Sl.below Sx2.out hb
        have Sy1' : Hid (Sl w24 Au lc cu) := Sl.below Sy1.out hb
        have Sy2' : Hid (Sl w24 Av ld cv) := Sl.below Sy2.out hb
        have Ss1' : Hid (Sl w24 A11 ls c11) := Sl.below Ss1.out hb
        have Ss2' : Hid (Sl w24 B11 js d11) := Sl.below Ss2.out hb
        have St1' : Hid (Sl w24 A12 ls c12) := Sl.below St1.out hb
        have St2' : Hid (Sl w24 B12 js d12) := Sl.below St2.out hb
        have Si1' : Hid (Sl w24 A13 li c13) := Sl.below Si1.out hb
        have Si2' : Hid (Sl w24 B13 ji d13) := Sl.below Si2.out hb
        have Sc1' : Hid (Sl w24 A14 li c14) := Sl.below Sc1.out hb
        have Sc2' : Hid (Sl w24 B14 ji d14) := Sl.below Sc2.out hb
        have Sp1' : Hid (Sl w24 A15 lp c15) := Sl.below Sp1.out hb
        have Sp2' : Hid (Sl w24 B15 jp d15) := Sl.below Sp2.out hb
        have Sq1' : Hid (Sl w24 A16 lp c16) := Sl.below Sq1.out hb
        have Sq2' : Hid (Sl w24 B16 jp d16) := Sl.below Sq2.out hb
        have Sr1' : Hid (Sl w24 A17 lr c17) := Sl.below Sr1.out hb
        have Sr2' : Hid (Sl w24 B17 jr d17) := Sl.below Sr2.out hb
        have Su1' : Hid (Sl w24 A18 lr c18) := Sl.below Su1.out hb
        have Su2' : Hid (Sl w24 B18 jr d18) := Sl.below Su2.out hb
        have Sn1' : Hid (Sl w24 A19 ln c19) := Sl.below Sn1.out hb
        have Sn2' : Hid (Sl w24 B19 jn d19) := Sl.below Sn2.out hb
        have Sv1' : Hid (Sl w24 A20 ln c20) := Sl.below Sv1.out hb
        have Sv2' : Hid (Sl w24 B20 jn d20) := Sl.below Sv2.out hb
        have B' : Hid (Below w.heap.size w w24) := below_mono B.out hb
        clear hb Ka Kb Kx Ky Ks Kt Ki Kc Kp Kq Kr Ku Kn Kv Sa1 Sa2 Sb1 Sb2 Sx1 Sx2 Sy1 Sy2 Ss1 Ss2 St1 St2 Si1 Si2 Sc1 Sc2 Sp1 Sp2 Sq1 Sq2 Sr1 Sr2 Su1 Su2 Sn1 Sn2 Sv1 Sv2 B
        have Ka := Ka'
        have Kb := Kb'
        have Kx := Kx'
        have Ky := Ky'
        have Ks := Ks'
        have Kt := Kt'
        have Ki := Ki'
        have Kc := Kc'
        have Kp := Kp'
        have Kq := Kq'
        have Kr := Kr'
        have Ku := Ku'
        have Kn := Kn'
        have Kv := Kv'
        have Sa1 := Sa1'
        have Sa2 := Sa2'
        have Sb1 := Sb1'
        have Sb2 := Sb2'
        have Sx1 := Sx1'
        have Sx2 := Sx2'
        have Sy1 := Sy1'
        have Sy2 := Sy2'
        have Ss1 := Ss1'
        have Ss2 := Ss2'
        have St1 := St1'
        have St2 := St2'
        have Si1 := Si1'
        have Si2 := Si2'
        have Sc1 := Sc1'
        have Sc2 := Sc2'
        have Sp1 := Sp1'
        have Sp2 := Sp2'
        have Sq1 := Sq1'
        have Sq2 := Sq2'
        have Sr1 := Sr1'
        have Sr2 := Sr2'
        have Su1 := Su1'
        have Su2 := Su2'
        have Sn1 := Sn1'
        have Sn2 := Sn2'
        have Sv1 := Sv1'
        have Sv2 := Sv2'
        have B := B'
        clear Ka' Kb' Kx' Ky' Ks' Kt' Ki' Kc' Kp' Kq' Kr' Ku' Kn' Kv' Sa1' Sa2' Sb1' Sb2' Sx1' Sx2' Sy1' Sy2' Ss1' Ss2' St1' St2' Si1' Si2' Sc1' Sc2' Sp1' Sp2' Sq1' Sq2' Sr1' Sr2' Su1' Su2' Sn1' Sn2' Sv1' Sv2' B'
        obtain ⟨qp0, qp1, qp2, qp3⟩ := Kp.out
        obtain ⟨qq0, qq1, qq2, qq3⟩ := Kq.out
        replace hza : w.heap.size < w24.heap.size := lt_of_cell (a := ⟨w.heap.size, 0, none⟩) Ka.out.1
        replace hzb : w.heap.size + 1 < w24.heap.size := lt_of_cell (a := ⟨w.heap.size + 1, 0, none⟩) Kb.out.1
        replace hzx : g5 < w24.heap.size := lt_of_cell (a := ⟨g5, 0, none⟩) Kx.out.1
        replace hzy : g6 < w24.heap.size := lt_of_cell (a := ⟨g6, 0, none⟩) Ky.out.1
        replace hzs : w11.heap.size < w24.heap.size := lt_of_cell (a := ⟨w11.heap.size, 0, none⟩) Ks.out.1
        replace hzt : w12.heap.size < w24.heap.size := lt_of_cell (a := ⟨w12.heap.size, 0, none⟩) Kt.out.1
        replace hzi : w13.heap.size < w24.heap.size := lt_of_cell (a := ⟨w13.heap.size, 0, none⟩) Ki.out.1
        replace hzc : w14.heap.size < w24.heap.size := lt_of_cell (a := ⟨w14.heap.size, 0, none⟩) Kc.out.1
        replace hzp : w15.heap.size < w24.heap.size := lt_of_cell (a := ⟨w15.heap.size, 0, none⟩) Kp.out.1
        replace hzq : w16.heap.size < w24.heap.size := lt_of_cell (a := ⟨w16.heap.size, 0, none⟩) Kq.out.1
        replace hzr : w17.heap.size < w24.heap.size := lt_of_cell (a := ⟨w17.heap.size, 0, none⟩) Kr.out.1
        replace hzu : w18.heap.size < w24.heap.size := lt_of_cell (a := ⟨w18.heap.size, 0, none⟩) Ku.out.1
        replace hzn : w19.heap.size < w24.heap.size := lt_of_cell (a := ⟨w19.heap.size, 0, none⟩) Kn.out.1
        replace hzv : w20.heap.size < w24.heap.size := lt_of_cell (a := ⟨w20.heap.size, 0, none⟩) Kv.out.1
        go_wp2_with fail
        refine (fsame_self np mp _ _ _ _ lp jp _ _ _ _ _ Sp1.out Sp2.out Sq1.out Sq2.out).mono ?_
        rintro e w25 ⟨rfl, hb⟩
        clear qp0 qp1 qp2 qp3 qq0 qq1 qq2 qq3
        have Ka' : Hid (Cf w25 w.heap.size na Aa la.length ca nb Ab lb.length cb) := Cf.keep Ka.out hb
        have Kb' : Hid (Cf w25 (w.heap.size + 1) nc Ac lc.length cc nd Ad ld.length cd) := Cf.keep Kb.out hb
        have Kx' : Hid (Cf w25 g5 na Ax la.length cx nb Ay lb.length cy) := Cf.keep Kx.out hb
        have Ky' : Hid (Cf w25 g6 nc Au lc.length cu nd Av ld.length cv) := Cf.keep Ky.out hb
        have Ks' : Hid (Cf w25 w11.heap.size ns A11 ls.length c11 ms B11 js.length d11) := Cf.keep Ks.out hb
        have Kt' : Hid (Cf w25 w12.heap.size ns A12 ls.length c12 ms B12 js.length d12) := Cf.keep Kt.out hb
        have Ki' : Hid (Cf w25 w13.heap.size ni A13 li.length c13 mi B13 ji.length d13) := Cf.keep Ki.out hb
        have Kc' : Hid (Cf w25 w14.heap.size ni A14 li.length c14 mi B14 ji.length d14) := Cf.keep Kc.out hb
        have Kp' : Hid (Cf w25 w15.heap.size np A15 lp.length c15 mp B15 jp.length d15) := Cf.keep Kp.out hb
        have Kq' : Hid (Cf w25 w16.heap.size np A16 lp.length c16 mp B16 jp.length d16) := Cf.keep Kq.out hb
        have Kr' : Hid (Cf w25 w17.heap.size nr A17 lr.length c17 mr B17 jr.length d17) := Cf.keep Kr.out hb
        have Ku' : Hid (Cf w25 w18.heap.size nr A18 lr.length c18 mr B18 jr.length d18) := Cf.keep Ku.out hb
        have Kn' : Hid (Cf w25 w19.heap.size nn A19 ln.length c19 mn B19 jn.length d19) := Cf.keep Kn.out hb
        have Kv' : Hid (Cf w25 w20.heap.size nn A20 ln.length c20 mn B20 jn.length d20) := Cf.keep Kv.out hb
        have Sa1' : Hid (Sl w25 Aa la ca) := Sl.below Sa1.out hb
        have Sa2' : Hid (Sl w25 Ab lb cb) := Sl.below Sa2.out hb
        have Sb1' : Hid (Sl w25 Ac lc cc) := Sl.below Sb1.out hb
        have Sb2' : Hid (Sl w25 Ad ld cd) := Sl.below Sb2.out hb
        have Sx1' : Hid (Sl w25 Ax la cx) := Sl.below Sx1.out hb
        have Sx2' : Hid (Sl w25 Ay lb cy) := Sl.below Sx2.out hb
        have Sy1' : Hid (Sl w25 Au lc cu) := Sl.below Sy1.out hb
        have Sy2' : Hid (Sl w25 Av ld cv) := Sl.below Sy2.out hb
        have Ss1' : Hid (Sl w25 A11 ls c11) := Sl.below Ss1.out hb
        have Ss2' : Hid (Sl w25 B11 js d11) := Sl.below Ss2.out hb
        have St1' : Hid (Sl w25 A12 ls c12) := Sl.below St1.out hb
        have St2' : Hid (Sl w25 B12 js d12) := Sl.below St2.out hb
        have Si1' : Hid (Sl w25 A13 li c13) := Sl.below Si1.out hb
        have Si2' : Hid (Sl w25 B13 ji d13) := Sl.below Si2.out hb
        have Sc1' : Hid (Sl w25 A14 li c14) := Sl.below Sc1.out hb
        have Sc2' : Hid (Sl w25 B14 ji d14) := Sl.below Sc2.out hb
        have Sp1' : Hid (Sl w25 A15 lp c15) := Sl.below Sp1.out hb
        have Sp2' : Hid (Sl w25 B15 jp d15) := Sl.below Sp2.out hb
        have Sq1' : Hid (Sl w25 A16 lp c16) := Sl.below Sq1.out hb
        have Sq2' : Hid (Sl w25 B16 jp d16) := Sl.below Sq2.out hb
        have Sr1' : Hid (Sl w25 A17 lr c17) := Sl.below Sr1.out hb
        have Sr2' : Hid (Sl w25 B17 jr d17) := Sl.below Sr2.out hb
        have Su1' : Hid (Sl w25 A18 lr c18) := Sl.below Su1.out hb
        have Su2' : Hid (Sl w25 B18 jr d18) := Sl.below Su2.out hb
        have Sn1' : Hid (Sl w25 A19 ln c19) := Sl.below Sn1.out hb
        have Sn2' : Hid (Sl w25 B19 jn d19) := Sl.below Sn2.out hb
        have Sv1' : Hid (Sl w25 A20 ln c20) := Sl.below Sv1.out hb
        have Sv2' : Hid (Sl w25 B20 jn d20) := Sl.below Sv2.out hb
        have B' : Hid (Below w.heap.size w w25) := below_mono B.out hb
        clear hb Ka Kb Kx Ky Ks Kt Ki Kc Kp Kq Kr Ku Kn Kv Sa1 Sa2 Sb1 Sb2 Sx1 Sx2 Sy1 Sy2 Ss1 Ss2 St1 St2 Si1 Si2 Sc1 Sc2 Sp1 Sp2 Sq1 Sq2 Sr1 Sr2 Su1 Su2 Sn1 Sn2 Sv1 Sv2 B
        have Ka := Ka'
        have Kb := Kb'
        have Kx := Kx'
        have Ky := Ky'
        have Ks := Ks'
        have Kt := Kt'
        have Ki := Ki'
        have Kc := Kc'
        have Kp := Kp'
        have Kq := Kq'
        have Kr := Kr'
        have Ku := Ku'
        have Kn := Kn'
        have Kv := Kv'
        have Sa1 := Sa1'
        have Sa2 := Sa2'
        have Sb1 := Sb1'
        have Sb2 := Sb2'
        have Sx1 := Sx1'
        have Sx2 := Sx2'
        have Sy1 := Sy1'
        have Sy2 := Sy2'
        have Ss1 := Ss1'
        have Ss2 := Ss2'
        have St1 := St1'
        have St2 := St2'
        have Si1 := Si1'
        have Si2 := Si2'
        have Sc1 := Sc1'
        have Sc2 := Sc2'
        have Sp1 := Sp1'
        have Sp2 := Sp2'
        have Sq1 := Sq1'
        have Sq2 := Sq2'
        have Sr1 := Sr1'
        have Sr2 := Sr2'
        have Su1 := Su1'
        have Su2 := Su2'
        have Sn1 := Sn1'
        have Sn2 := Sn2'
        have Sv1 := Sv1'
        have Sv2 := Sv2'
        have B := B'
        clear Ka' Kb' Kx' Ky' Ks' Kt' Ki' Kc' Kp' Kq' Kr' Ku' Kn' Kv' Sa1' Sa2' Sb1' Sb2' Sx1' Sx2' Sy1' Sy2' Ss1' Ss2' St1' St2' Si1' Si2' Sc1' Sc2' Sp1' Sp2' Sq1' Sq2' Sr1' Sr2' Su1' Su2' Sn1' Sn2' Sv1' Sv2' B'
        obtain ⟨qr0, qr1, qr2, qr3⟩ := Kr.out
        obtain ⟨qu0, qu1, qu2, qu3⟩ := Ku.out
        replace hza : w.heap.size < w25.heap.size := lt_of_cell (a := ⟨w.heap.size, 0, none⟩) Ka.out.1
        replace hzb : w.heap.size + 1 < w25.heap.size := lt_of_cell (a := ⟨w.heap.size + 1, 0, none⟩) Kb.out.1
        replace hzx : g5 < w25.heap.size := lt_of_cell (a := ⟨g5, 0, none⟩) Kx.out.1
        replace hzy : g6 < w25.heap.size := lt_of_cell (a := ⟨g6, 0, none⟩) Ky.out.1
        replace hzs : w11.heap.size < w25.heap.size := lt_of_cell (a := ⟨w11.heap.size, 0, none⟩) Ks.out.1
        replace hzt : w12.heap.size < w25.heap.size := lt_of_cell (a := ⟨w12.heap.size, 0, none⟩) Kt.out.1
        replace hzi : w13.heap.size < w25.heap.size := lt_of_cell (a := ⟨w13.heap.size, 0, none⟩) Ki.out.1
        replace hzc : w14.heap.size < w25.heap.size := lt_of_cell (a := ⟨w14.heap.size, 0, none⟩) Kc.out.1
        replace hzp : w15.heap.size < w25.heap.size := lt_of_cell (a := ⟨w15.heap.size, 0, none⟩) Kp.out.1
        replace hzq : w16.heap.size < w25.heap.size := lt_of_cell (a := ⟨w16.heap.size, 0, none⟩) Kq.out.1
        replace hzr : w17.heap.size < w25.heap.size := lt_of_cell (a := ⟨w17.heap.size, 0, none⟩) Kr.out.1
        replace hzu : w18.heap.size < w25.heap.size := lt_of_cell (a := ⟨w18.heap.size, 0, none⟩) Ku.out.1
        replace hzn : w19.heap.size < w25.heap.size := lt_of_cell (a := ⟨w19.heap.size, 0, none⟩) Kn.out.1
        replace hzv : w20.heap.size < w25.heap.size := lt_of_cell (a := ⟨w20.heap.size, 0, none⟩) Kv.out.1
        go_wp2_with fail
        refine (fsame_self nr mr _ _ _ _ lr jr _ _ _ _ _ Sr1.out Sr2.out Su1.out Su2.out).mono ?_
        rintro e w26 ⟨rfl, hb⟩
        clear qr0 qr1 qr2 qr3 qu0 qu1 qu2 qu3
        have Ka' : Hid (Cf w26 w.heap.size na Aa la.length ca nb Ab lb.length cb) := Cf.keep Ka.out hb
        have Kb' : Hid (Cf w26 (w.heap.size + 1) nc Ac lc.length cc nd Ad ld.length cd) := Cf.keep Kb.out hb
        have Kx' : Hid (Cf w26 g5 na Ax la.length cx nb Ay lb.length cy) := Cf.keep Kx.out hb
        have Ky' : Hid (Cf w26 g6 nc Au lc.length cu nd Av ld.length cv) := Cf.keep Ky.out hb
        have Ks' : Hid (Cf w26 w11.heap.size ns A11 ls.length c11 ms B11 js.length d11) := Cf.keep Ks.out hb
        have Kt' : Hid (Cf w26 w12.heap.size ns A12 ls.length c12 ms B12 js.length d12) := Cf.keep Kt.out hb
        have Ki' : Hid (Cf w26 w13.heap.size ni A13 li.length c13 mi B13 ji.length d13) := Cf.keep Ki.out hb
        have Kc' : Hid (Cf w26 w14.heap.size ni A14 li.length c14 mi B14 ji.length d14) := Cf.keep Kc.out hb
        have Kp' : Hid (Cf w26 w15.heap.size np A15 lp.length c15 mp B15 jp.length d15) := Cf.keep Kp.out hb
        have Kq' : Hid (Cf w26 w16.heap.size np A16 lp.length c16 mp B16 jp.length d16) := Cf.keep Kq.out hb
        have Kr' : Hid (Cf w26 w17.heap.size nr A17 lr.length c17 mr B17 jr.length d17) := Cf.keep Kr.out hb
        have Ku' : Hid (Cf w26 w18.heap.size nr A18 lr.length c18 mr B18 jr.length d18) := Cf.keep Ku.out hb
        have Kn' : Hid (Cf w26 w19.heap.size nn A19 ln.length c19 mn B19 jn.length d19) := Cf.keep Kn.out hb
        have Kv' : Hid (Cf w26 w20.heap.size nn A20 ln.length c20 mn B20 jn.length d20) := Cf.keep Kv.out hb
        have Sa1' : Hid (Sl w26 Aa la ca) := Sl.below Sa1.out hb
        have Sa2' : Hid (Sl w26 Ab lb cb) := Sl.below Sa2.out hb
        have Sb1' : Hid (Sl w26 Ac lc cc) := Sl.below Sb1.out hb
        have Sb2' : Hid (Sl w26 Ad ld cd) := Sl.below Sb2.out hb
        have Sx1' : Hid (Sl w26 Ax la cx) := Sl.below Sx1.out hb
        have Sx2' : Hid (Sl w26 Ay lb cy) := Sl.below Sx2.out hb
        have Sy1' : Hid (Sl w26 Au lc cu) := Sl.below Sy1.out hb
        have Sy2' : Hid (Sl w26 Av ld cv) := Sl.below Sy2.out hb
        have Ss1' : Hid (Sl w26 A11 ls c11) := Sl.below Ss1.out hb
        have Ss2' : Hid (Sl w26 B11 js d11) := Sl.below Ss2.out hb
        have St1' : Hid (Sl w26 A12 ls c12) := Sl.below St1.out hb
        have St2' : Hid (Sl w26 B12 js d12) := Sl.below St2.out hb
        have Si1' : Hid (Sl w26 A13 li c13) := Sl.below Si1.out hb
        have Si2' : Hid (Sl w26 B13 ji d13) := Sl.below Si2.out hb
        have Sc1' : Hid (Sl w26 A14 li c14) := Sl.below Sc1.out hb
        have Sc2' : Hid (Sl w26 B14 ji d14) := Sl.below Sc2.out hb
        have Sp1' : Hid (Sl w26 A15 lp c15) := Sl.below Sp1.out hb
        have Sp2' : Hid (Sl w26 B15 jp d15) := Sl.below Sp2.out hb
        have Sq1' : Hid (Sl w26 A16 lp c16) := Sl.below Sq1.out hb
        have Sq2' : Hid (Sl w26 B16 jp d16) := Sl.below Sq2.out hb
        have Sr1' : Hid (Sl w26 A17 lr c17) := Sl.below Sr1.out hb
        have Sr2' : Hid (Sl w26 B17 jr d17) := Sl.below Sr2.out hb
        have Su1' : Hid (Sl w26 A18 lr c18) := Sl.below Su1.out hb
        have Su2' : Hid (Sl w26 B18 jr d18) := Sl.below Su2.out hb
        have Sn1' : Hid (Sl w26 A19 ln c19) := Sl.below Sn1.out hb
        have Sn2' : Hid (Sl w26 B19 jn d19) := Sl.below Sn2.out hb
        have Sv1' : Hid (Sl w26 A20 ln c20) := Sl.below Sv1.out hb
        have Sv2' : Hid (Sl w26 B20 jn d20) := Sl.below Sv2.out hb
        have B' : Hid (Below w.heap.size w w26) := below_mono B.out hb
        clear hb Ka Kb Kx Ky Ks Kt Ki Kc Kp Kq Kr Ku Kn Kv Sa1 Sa2 Sb1 Sb2 Sx1 Sx2 Sy1 Sy2 Ss1 Ss2 St1 St2 Si1 Si2 Sc1 Sc2 Sp1 Sp2 Sq1 Sq2 Sr1 Sr2 Su1 Su2 Sn1 Sn2 Sv1 Sv2 B
        have Ka := Ka'
        have Kb := Kb'
        have Kx := Kx'
        have Ky := Ky'
        have Ks := Ks'
        have Kt := Kt'
        have Ki := Ki'
        have Kc := Kc'
        have Kp := Kp'
        have Kq := Kq'
        have Kr := Kr'
        have Ku := Ku'
        have Kn := Kn'
        have Kv := Kv'
        have Sa1 := Sa1'
        have Sa2 := Sa2'
        have Sb1 := Sb1'
        have Sb2 := Sb2'
        have Sx1 := Sx1'
        have Sx2 := Sx2'
        have Sy1 := Sy1'
        have Sy2 := Sy2'
        have Ss1 := Ss1'
        have Ss2 := Ss2'
        have St1 := St1'
        have St2 := St2'
        have Si1 := Si1'
        have Si2 := Si2'
        have Sc1 := Sc1'
        have Sc2 := Sc2'
        have Sp1 := Sp1'
        have Sp2 := Sp2'
        have Sq1 := Sq1'
        have Sq2 := Sq2'
        have Sr1 := Sr1'
        have Sr2 := Sr2'
        have Su1 := Su1'
        have Su2 := Su2'
        have Sn1 := Sn1'
        have Sn2 := Sn2'
        have Sv1 := Sv1'
        have Sv2 := Sv2'
        have B := B'
        clear Ka' Kb' Kx' Ky' Ks' Kt' Ki' Kc' Kp' Kq' Kr' Ku' Kn' Kv' Sa1' Sa2' Sb1' Sb2' Sx1' Sx2' Sy1' Sy2' Ss1' Ss2' St1' St2' Si1' Si2' Sc1' Sc2' Sp1' Sp2' Sq1' Sq2' Sr1' Sr2' Su1' Su2' Sn1' Sn2' Sv1' Sv2' B'
        obtain ⟨qn0, qn1, qn2, qn3⟩ := Kn.out
        obtain ⟨qv0, qv1, qv2, qv3⟩ := Kv.out
        replace hza : w.heap.size < w26.heap.size := lt_of_cell (a := ⟨w.heap.size, 0, none⟩) Ka.out.1
        replace hzb : w.heap.size + 1 < w26.heap.size := lt_of_cell (a := ⟨w.heap.size + 1, 0, none⟩) Kb.out.1
        replace hzx : g5 < w26.heap.size := lt_of_cell (a := ⟨g5, 0, none⟩) Kx.out.1
        replace hzy : g6 < w26.heap.size := lt_of_cell (a := ⟨g6, 0, none⟩) Ky.out.1
        replace hzs : w11.heap.size < w26.heap.size := lt_of_cell (a := ⟨w11.heap.size, 0, none⟩) Ks.out.1
        replace hzt : w12.heap.size < w26.heap.size := lt_of_cell (a := ⟨w12.heap.size, 0, none⟩) Kt.out.1
        replace hzi : w13.heap.size < w26.heap.size := lt_of_cell (a := ⟨w13.heap.size, 0, none⟩) Ki.out.1
        replace hzc : w14.heap.size < w26.heap.size := lt_of_cell (a := ⟨w14.heap.size, 0, none⟩) Kc.out.1
        replace hzp : w15.heap.size < w26.heap.size := lt_of_cell (a := ⟨w15.heap.size, 0, none⟩) Kp.out.1
        replace hzq : w16.heap.size < w26.heap.size := lt_of_cell (a := ⟨w16.heap.size, 0, none⟩) Kq.out.1
        replace hzr : w17.heap.size < w26.heap.size := lt_of_cell (a := ⟨w17.heap.size, 0, none⟩) Kr.out.1
        replace hzu : w18.heap.size < w26.heap.size := lt_of_cell (a := ⟨w18.heap.size, 0, none⟩) Ku.out.1
        replace hzn : w19.heap.size < w26.heap.size := lt_of_cell (a := ⟨w19.heap.size, 0, none⟩) Kn.out.1
        replace hzv : w20.heap.size < w26.heap.size := lt_of_cell (a := ⟨w20.heap.size, 0, none⟩) Kv.out.1
        go_wp2_with fail
        refine (fsame_self nn mn _ _ _ _ ln jn _ _ _ _ _ Sn1.out Sn2.out Sv1.out Sv2.out).mono ?_
        rintro e w27 ⟨rfl, hb⟩
        clear qn0 qn1 qn2 qn3 qv0 qv1 qv2 qv3
        have Ka' : Hid (Cf w27 w.heap.size na Aa la.length ca nb Ab lb.length cb) := Cf.keep Ka.out hb
        have Kb' : Hid (Cf w27 (w.heap.size + 1) nc Ac lc.length cc nd Ad ld.length cd) := Cf.keep Kb.out hb
        have Kx' : Hid (Cf w27 g5 na Ax la.length cx nb Ay lb.length cy) := Cf.keep Kx.out hb
        have Ky' : Hid (Cf w27 g6 nc Au lc.length cu nd Av ld.length cv) := Cf.keep Ky.out hb
        have Ks' : Hid (Cf w27 w11.heap.size ns A11 ls.length c11 ms B11 js.length d11) := Cf.keep Ks.out hb
        have Kt' : Hid (Cf w27 w12.heap.size ns A12 ls.length c12 ms B12 js.length d12) := Cf.keep Kt.out hb
        have Ki' : Hid (Cf w27 w13.heap.size ni A13 li.length c13 mi B13 ji.length d13) := Cf.keep Ki.out hb
        have Kc' : Hid (Cf w27 w14.heap.size ni A14 li.length c14 mi B14 ji.length d14) := Cf.keep Kc.out hb
        have Kp' : Hid (Cf w27 w15.heap.size np A15 lp.length c15 mp B15 jp.length d15) := Cf.keep Kp.out hb
        have Kq' : Hid (Cf w27 w16.heap.size np A16 lp.length c16 mp B16 jp.length d16) := Cf.keep Kq.out hb
        have Kr' : Hid (Cf w27 w17.heap.size nr A17 lr.length c17 mr B17 jr.length d17) := Cf.keep Kr.out hb
        have Ku' : Hid (Cf w27 w18.heap.size nr A18 lr.length c18 mr B18 jr.length d18) := Cf.keep Ku.out hb
        have Kn' : Hid (Cf w27 w19.heap.size nn A19 ln.length c19 mn B19 jn.length d19) := Cf.keep Kn.out hb
        have Kv' : Hid (Cf w27 w20.heap.size nn A20 ln.length c20 mn B20 jn.length d20) := Cf.keep Kv.out hb
        have Sa1' : Hid (Sl w27 Aa la ca) := Sl.below Sa1.out hb
        have Sa2' : Hid (Sl w27 Ab lb cb) := Sl.below Sa2.out hb
        have Sb1' : Hid (Sl w27 Ac lc cc) := Sl.below Sb1.out hb
        have Sb2' : Hid (Sl w27 Ad ld cd) := Sl.below Sb2.out hb
        have Sx1' : Hid (Sl w27 Ax la cx) := Sl.below Sx1.out hb
        have Sx2' : Hid (Sl w27 Ay lb cy) := Sl.below Sx2.out hb
        have Sy1' : Hid (Sl w27 Au lc cu) := Sl.below Sy1.out hb
        have Sy2' : Hid (Sl w27 Av ld cv) := Sl.below Sy2.out hb
        have Ss1' : Hid (Sl w27 A11 ls c11) := Sl.below Ss1.out hb
        have Ss2' : Hid (Sl w27 B11 js d11) := Sl.below Ss2.out hb
        have St1' : Hid (Sl w27 A12 ls c12) := Sl.below St1.out hb
        have St2' : Hid (Sl w27 B12 js d12) := Sl.below St2.out hb
        have Si1' : Hid (Sl w27 A13 li c13) := Sl.below Si1.out hb
        have Si2' : Hid (Sl w27 B13 ji d13) := Sl.below Si2.out hb
        have Sc1' : Hid (Sl w27 A14 li c14) := Sl.below Sc1.out hb
        have Sc2' : Hid (Sl w27 B14 ji d14) := Sl.below Sc2.out hb
        have Sp1' : Hid (Sl w27 A15 lp c15) := Sl.below Sp1.out hb
        have Sp2' : Hid (Sl w27 B15 jp d15) := Sl.below Sp2.out hb
        have Sq1' : Hid (Sl w27 A16 lp c16) := Sl.below Sq1.out hb
        have Sq2' : Hid (Sl w27 B16 jp d16) := Sl.below Sq2.out hb
        have Sr1' : Hid (Sl w27 A17 lr c17) := Sl.below Sr1.out hb
        have Sr2' : Hid (Sl w27 B17 jr d17) := Sl.below Sr2.out hb
        have Su1' : Hid (Sl w27 A18 lr c18) := Sl.below Su1.out hb
        have Su2' : Hid (Sl w27 B18 jr d18) := Sl.below Su2.out hb
        have Sn1' : Hid (Sl w27 A19 ln c19) := Sl.below Sn1.out hb
        have Sn2' : Hid (Sl w27 B19 jn d19) := Sl.below Sn2.out hb
        have Sv1' : Hid (Sl w27 A20 ln c20) := Sl.below Sv1.out hb
        have Sv2' : Hid (Sl w27 B20 jn d20) := Sl.below Sv2.out hb
        have B' : Hid (Below w.heap.size w w27) := below_mono B.out hb
        clear hb Ka Kb Kx Ky Ks Kt Ki Kc Kp Kq Kr Ku Kn Kv Sa1 Sa2 Sb1 Sb2 Sx1 Sx2 Sy1 Sy2 Ss1 Ss2 St1 St2 Si1 Si2 Sc1 Sc2 Sp1 Sp2 Sq1 Sq2 Sr1 Sr2 Su1 Su2 Sn1 Sn2 Sv1 Sv2 B
        have Ka := Ka'
        have Kb := Kb'
        have Kx := Kx'
        have Ky := Ky'
        have Ks := Ks'
        have Kt := Kt'
        have Ki := Ki'
        have Kc := Kc'
        have Kp := Kp'
        have Kq := Kq'
        have Kr := Kr'
        have Ku := Ku'
        have Kn := Kn'
        have Kv := Kv'
        have Sa1 := Sa1'
        have Sa2 := Sa2'
        have Sb1 := Sb1'
        have Sb2 := Sb2'
        have Sx1 := Sx1'
        have Sx2 := Sx2'
        have Sy1 := Sy1'
        have Sy2 := Sy2'
        have Ss1 := Ss1'
        have Ss2 := Ss2'
        have St1 := St1'
        have St2 := St2'
        have Si1 := Si1'
        have Si2 := Si2'
        have Sc1 := Sc1'
        have Sc2 := Sc2'
        have Sp1 := Sp1'
        have Sp2 := Sp2'
        have Sq1 := Sq1'
        have Sq2 := Sq2'
        have Sr1 := Sr1'
        have Sr2 := Sr2'
        have Su1 := Su1'
        have Su2 := Su2'
        have Sn1 := Sn1'
        have Sn2 := Sn2'
        have Sv1 := Sv1'
        have Sv2 := Sv2'
        have B := B'
        clear Ka' Kb' Kx' Ky' Ks' Kt' Ki' Kc' Kp' Kq' Kr' Ku' Kn' Kv' Sa1' Sa2' Sb1' Sb2' Sx1' Sx2' Sy1' Sy2' Ss1' Ss2' St1' St2' Si1' Si2' Sc1' Sc2' Sp1' Sp2' Sq1' Sq2' Sr1' Sr2' Su1' Su2' Sn1' Sn2' Sv1' Sv2' B'
        obtain ⟨qa0, qa1, qa2, qa3⟩ := Ka.out
        obtain ⟨qx0, qx1, qx2, qx3⟩ := Kx.out
        replace hza : w.heap.size < w27.heap.size := lt_of_cell (a := ⟨w.heap.size, 0, none⟩) Ka.out.1
        replace hzb : w.heap.size + 1 < w27.heap.size := lt_of_cell (a := ⟨w.heap.size + 1, 0, none⟩) Kb.out.1
        replace hzx : g5 < w27.heap.size := lt_of_cell (a := ⟨g5, 0, none⟩) Kx.out.1
        replace hzy : g6 < w27.heap.size := lt_of_cell (a := ⟨g6, 0, none⟩) Ky.out.1
        replace hzs : w11.heap.size < w27.heap.size := lt_of_cell (a := ⟨w11.heap.size, 0, none⟩) Ks.out.1
        replace hzt : w12.heap.size < w27.heap.size := lt_of_cell (a := ⟨w12.heap.size, 0, none⟩) Kt.out.1
        replace hzi : w13.heap.size < w27.heap.size := lt_of_cell (a := ⟨w13.heap.size, 0, none⟩) Ki.out.1
        replace hzc : w14.heap.size < w27.heap.size := lt_of_cell (a := ⟨w14.heap.size, 0, none⟩) Kc.out.1
        replace hzp : w15.heap.size < w27.heap.size := lt_of_cell (a := ⟨w15.heap.size, 0, none⟩) Kp.out.1
        replace hzq : w16.heap.size < w27.heap.size := lt_of_cell (a := ⟨w16.heap.size, 0, none⟩) Kq.out.1
        replace hzr : w17.heap.size < w27.heap.size := lt_of_cell (a := ⟨w17.heap.size, 0, none⟩) Kr.out.1
        replace hzu : w18.heap.size < w27.heap.size := lt_of_cell (a := ⟨w18.heap.size, 0, none⟩) Ku.out.1
        replace hzn : w19.heap.size < w27.heap.size := lt_of_cell (a := ⟨w19.heap.size, 0, none⟩) Kn.out.1
        replace hzv : w20.heap.size < w27.heap.size := lt_of_cell (a := ⟨w20.heap.size, 0, none⟩) Kv.out.1
        go_wp2_with fail
        refine (fsame_self na nb _ _ _ _ la lb _ _ _ _ _ Sa1.out Sa2.out Sx1.out Sx2.out).mono ?_
        rintro e w28 ⟨rfl, hb⟩
        clear qa0 qa1 qa2 qa3 qx0 qx1 qx2 qx3
        have Ka' : Hid (Cf w28 w.heap.size na Aa la.length ca nb Ab lb.length cb) := Cf.keep Ka.out hb
        have Kb' : Hid (Cf w28 (w.heap.size + 1) nc Ac lc.length cc nd Ad ld.length cd) := Cf.keep Kb.out hb
        have Kx' : Hid (Cf w28 g5 na Ax la.length cx nb Ay lb.length cy) := Cf.keep Kx.out hb
        have Ky' : Hid (Cf w28 g6 nc Au lc.length cu nd Av ld.length cv) := Cf.keep Ky.out hb
        have Ks' : Hid (Cf w28 w11.heap.size ns A11 ls.length c11 ms B11 js.length d11) := Cf.keep Ks.out hb
        have Kt' : Hid (Cf w28 w12.heap.size ns A12 ls.length c12 ms B12 js.length d12) := Cf.keep Kt.out hb
        have Ki' : Hid (Cf w28 w13.heap.size ni A13 li.length c13 mi B13 ji.length d13) := Cf.keep Ki.out hb
        have Kc' : Hid (Cf w28 w14.heap.size ni A14 li.length c14 mi B14 ji.length d14) := Cf.keep Kc.out hb
        have Kp' : Hid (Cf w28 w15.heap.size np A15 lp.length c15 mp B15 jp.length d15) := Cf.keep Kp.out hb
        have Kq' : Hid (Cf w28 w16.heap.size np A16 lp.length c16 mp B16 jp.length d16) := Cf.keep Kq.out hb
        have Kr' : Hid (Cf w28 w17.heap.size nr A17 lr.length c17 mr B17 jr.length d17) := Cf.keep Kr.out hb
        have Ku' : Hid (Cf w28 w18.heap.size nr A18 lr.length c18 mr B18 jr.length d18) := Cf.keep Ku.out hb
        have Kn' : Hid (Cf w28 w19.heap.size nn A19 ln.length c19 mn B19 jn.length d19) := Cf.keep Kn.out hb
        have Kv' : Hid (Cf w28 w20.heap.size nn A20 ln.length c20 mn B20 jn.length d20) := Cf.keep Kv.out hb
        have Sa1' : Hid (Sl w28 Aa la ca) := Sl.below Sa1.out hb
        have Sa2' : Hid (Sl w28 Ab lb cb) := Sl.below Sa2.out hb
        have Sb1' : Hid (Sl w28 Ac lc cc) := Sl.below Sb1.out hb
        have Sb2' : Hid (Sl w28 Ad ld cd) := Sl.below Sb2.out hb
        have Sx1' : Hid (Sl w28 Ax la cx) := Sl.below Sx1.out hb
        have Sx2' : Hid (Sl w28 Ay lb cy) := Sl.below Sx2.out hb
        have Sy1' : Hid (Sl w28 Au lc cu) := Sl.below Sy1.out hb
        have Sy2' : Hid (Sl w28 Av ld cv) := Sl.below Sy2.out hb
        have Ss1' : Hid (Sl w28 A11 ls c11) := Sl.below Ss1.out hb
        have Ss2' : Hid (Sl w28 B11 js d11) := Sl.below Ss2.out hb
        have St1' : Hid (Sl w28 A12 ls c12) := Sl.below St1.out hb
        have St2' : Hid (Sl w28 B12 js d12) := Sl.below St2.out hb
        have Si1' : Hid (Sl w28 A13 li c13) := Sl.below Si1.out hb
        have Si2' : Hid (Sl w28 B13 ji d13) := Sl.below Si2.out hb
        have Sc1' : Hid (Sl w28 A14 li c14) := Sl.below Sc1.out hb
        have Sc2' : Hid (Sl w28 B14 ji d14) := Sl.below Sc2.out hb
        have Sp1' : Hid (Sl w28 A15 lp c15) := Sl.below Sp1.out hb
        have Sp2' : Hid (Sl w28 B15 jp d15) := Sl.below Sp2.out hb
        have Sq1' : Hid (Sl w28 A16 lp c16) := Sl.below Sq1.out hb
        have Sq2' : Hid (Sl w28 B16 jp d16) := Sl.below Sq2.out hb
        have Sr1' : Hid (Sl w28 A17 lr c17) := Sl.below Sr1.out hb
        have Sr2' : Hid (Sl w28 B17 jr d17) := Sl.below Sr2.out hb
        have Su1' : Hid (Sl w28 A18 lr c18) := Sl.below Su1.out hb
        have Su2' : Hid (Sl w28 B18 jr d18) := Sl.below Su2.out hb
        have Sn1' : Hid (Sl w28 A19 ln c19) := Sl.below Sn1.out hb
        have Sn2' : Hid (Sl w28 B19 jn d19) := Sl.below Sn2.out hb
        have Sv1' : Hid (Sl w28 A20 ln c20) := Sl.below Sv1.out hb
        have Sv2' : Hid (Sl w28 B20 jn d20) := Sl.below Sv2.out hb
        have B' : Hid (Below w.heap.size w w28) := below_mono B.out hb
        clear hb Ka Kb Kx Ky Ks Kt Ki Kc Kp Kq Kr Ku Kn Kv Sa1 Sa2 Sb1 Sb2 Sx1 Sx2 Sy1 Sy2 Ss1 Ss2 St1 St2 Si1 Si2 Sc1 Sc2 Sp1 Sp2 Sq1 Sq2 Sr1 Sr2 Su1 Su2 Sn1 Sn2 Sv1 Sv2 B
        have Ka := Ka'
        have Kb := Kb'
        have Kx := Kx'
        have Ky := Ky'
        have Ks := Ks'
        have Kt := Kt'
        have Ki := Ki'
        have Kc := Kc'
        have Kp := Kp'
        have Kq := Kq'
        have Kr := Kr'
        have Ku := Ku'
        have Kn := Kn'
        have Kv := Kv'
        have Sa1 := Sa1'
        have Sa2 := Sa2'
        have Sb1 := Sb1'
        have Sb2 := Sb2'
        have Sx1 := Sx1'
        have Sx2 := Sx2'
        have Sy1 := Sy1'
        have Sy2 := Sy2'
        have Ss1 := Ss1'
        have Ss2 := Ss2'
        have St1 := St1'
        have St2 := St2'
        have Si1 := Si1'
        have Si2 := Si2'
        have Sc1 := Sc1'
        have Sc2 := Sc2'
        have Sp1 := Sp1'
        have Sp2 := Sp2'
        have Sq1 := Sq1'
        have Sq2 := Sq2'
        have Sr1 := Sr1'
        have Sr2 := Sr2'
        have Su1 := Su1'
        have Su2 := Su2'
        have Sn1 := Sn1'
        have Sn2 := Sn2'
        have Sv1 := Sv1'
        have Sv2 := Sv2'
        have B := B'
        clear Ka' Kb' Kx' Ky' Ks' Kt' Ki' Kc' Kp' Kq' Kr' Ku' Kn' Kv' Sa1' Sa2' Sb1' Sb2' Sx1' Sx2' Sy1' Sy2' Ss1' Ss2' St1' St2' Si1' Si2' Sc1' Sc2' Sp1' Sp2' Sq1' Sq2' Sr1' Sr2' Su1' Su2' Sn1' Sn2' Sv1' Sv2' B'
        obtain ⟨qb0, qb1, qb2, qb3⟩ := Kb.out
        obtain ⟨qy0, qy1, qy2, qy3⟩ := Ky.out
        replace hza : w.heap.size < w28.heap.size := lt_of_cell (a := ⟨w.heap.size, 0, none⟩) Ka.out.1
        replace hzb : w.heap.size + 1 < w28.heap.size := lt_of_cell (a := ⟨w.heap.size + 1, 0, none⟩) Kb.out.1
        replace hzx : g5 < w28.heap.size := lt_of_cell (a := ⟨g5, 0, none⟩) Kx.out.1
        replace hzy : g6 < w28.heap.size := lt_of_cell (a := ⟨g6, 0, none⟩) Ky.out.1
        replace hzs : w11.heap.size < w28.heap.size := lt_of_cell (a := ⟨w11.heap.size, 0, none⟩) Ks.out.1
        replace hzt : w12.heap.size < w28.heap.size := lt_of_cell (a := ⟨w12.heap.size, 0, none⟩) Kt.out.1
        replace hzi : w13.heap.size < w28.heap.size := lt_of_cell (a := ⟨w13.heap.size, 0, none⟩) Ki.out.1
        replace hzc : w14.heap.size < w28.heap.size := lt_of_cell (a := ⟨w14.heap.size, 0, none⟩) Kc.out.1
        replace hzp : w15.heap.size < w28.heap.size := lt_of_cell (a := ⟨w15.heap.size, 0, none⟩) Kp.out.1
        replace hzq : w16.heap.size < w28.heap.size := lt_of_cell (a := ⟨w16.heap.size, 0, none⟩) Kq.out.1
        replace hzr : w17.heap.size < w28.heap.size := lt_of_cell (a := ⟨w17.heap.size, 0, none⟩) Kr.out.1
        replace hzu : w18.heap.size < w28.heap.size := lt_of_cell (a := ⟨w18.heap.size, 0, none⟩) Ku.out.1
        replace hzn : w19.heap.size < w28.heap.size := lt_of_cell (a := ⟨w19.heap.size, 0, none⟩) Kn.out.1
        replace hzv : w20.heap.size < w28.heap.size := lt_of_cell (a := ⟨w20.heap.size, 0, none⟩) Kv.out.1
        go_wp2_with fail
        refine (fsame_self nc nd _ _ _ _ lc ld _ _ _ _ _ Sb1.out Sb2.out Sy1.out Sy2.out).mono ?_
        rintro e w29 ⟨rfl, hb⟩
        clear qb0 qb1 qb2 qb3 qy0 qy1 qy2 qy3
        have B' : Hid (Below w.heap.size w w29) := below_mono B.out hb
        clear hb
        go_wp2
        go_ret
        exact ⟨rfl, B'.out⟩

end Go.Proofs.Ythlfidbhldbedaa

/- The walk of the law WideRoots. -/
import Derived.Test.YtejapkdhbpngbaaDoorW5
import Derived.Test.YtejapkdhbpngbaaDoorW7
import Derived.Test.YtejapkdhbpngbaaDoorW20
import Derived.Test.YtejapkdhbpngbaaDoorW37
import Derived.Test.YtejapkdhbpngbaaDoorW43
import Derived.Test.YtejapkdhbpngbaaDoorW52
import Derived.Test.YtejapkdhbpngbaaDoorMathZ
import Derived.Deep.CutRange
namespace Go.Proofs.YtejapkdhbpngbaaDoor
open Go.RowKit
attribute [local go_sem ↓] Go.wp_at_zero Go.wp_at_succ
set_option maxRecDepth 100000 in
set_option maxHeartbeats 4000000 in
theorem wideRoots_walk (na nb : Bool) (Aa Ab : Option Addr) (la lb : List Nat) (ca cb : Nat) (kz : Int) (hk1 : 0 ≤ kz) (hk2 : kz ≤ 255) (w : World) (hsa : Sl w Aa la ca) (hsb : Sl w Ab lb cb) :
    Calls Tryd.prog 7 #[.agg #[.bool na, .slice Aa la.length ca], .agg #[.bool nb, .slice Ab lb.length cb], .int .u8 kz] w fun e w' => e = .returned (.bool true) ∧ Below w.heap.size w w' := by
  obtain ⟨k, rfl⟩ := Int.eq_ofNat_of_zero_le hk1
  have Sa := Lib.hid hsa
  have Sb := Lib.hid hsb
  have B : Hid (Below w.heap.size w w) := Below.refl _ _
  cases hlong : longB 60 na la nb lb nb lb with
  | true =>
    have Hlong := Lib.hid hlong
    clear hsa hsb hlong
    go_enter Tryd.func7, Tryd.ntmps7
    go_wp2_with fail
    refine (alive_any _).mono ?_
    rintro e w1 ⟨rfl, hb⟩
    have Ka : Hid (Cw w1 w.heap.size na Aa la.length ca) := Cw.keep (Cw.keep (Cw.fresh (by simp) _ _ _ _ _) (blw1 _ _)) hb
    have Kb : Hid (Cw w1 (w.heap.size + 1) nb Ab lb.length cb) := Cw.keep (Cw.fresh (by simp) _ _ _ _ _) hb
    replace Sa : Hid (Sl w1 Aa la ca) := Sl.below ((Sa.out.alloc _).alloc _) hb
    replace Sb : Hid (Sl w1 Ab lb cb) := Sl.below ((Sb.out.alloc _).alloc _) hb
    replace B : Hid (Below w.heap.size w w1) := below_mono (below_mono (below_mono B.out (blw1 _ _)) (blw1 _ _)) hb
    clear hb
    obtain ⟨qa0, qa1⟩ := Ka.out
    obtain ⟨qb0, qb1⟩ := Kb.out
    have hza : w.heap.size < w1.heap.size := lt_of_cell (a := ⟨w.heap.size, 0, none⟩) Ka.out.1
    have hzb : w.heap.size + 1 < w1.heap.size := lt_of_cell (a := ⟨w.heap.size + 1, 0, none⟩) Kb.out.1
    go_wp2_with fail
    refine (long_any 60 _ _ _ _ _ _ _ _ _ _ _ _ _ Sa.out Sb.out Sb.out).mono ?_
    rw [Hlong.out]
    rintro e w2 ⟨rfl, hb⟩
    clear qa0 qa1 qb0 qb1
    replace Ka : Hid (Cw w2 w.heap.size na Aa la.length ca) := Cw.keep Ka.out hb
    replace Kb : Hid (Cw w2 (w.heap.size + 1) nb Ab lb.length cb) := Cw.keep Kb.out hb
    replace Sa : Hid (Sl w2 Aa la ca) := Sl.below Sa.out hb
    replace Sb : Hid (Sl w2 Ab lb cb) := Sl.below Sb.out hb
    replace B : Hid (Below w.heap.size w w2) := below_mono B.out hb
    clear hb
    obtain ⟨qa0, qa1⟩ := Ka.out
    obtain ⟨qb0, qb1⟩ := Kb.out
    replace hza : w.heap.size < w2.heap.size := lt_of_cell (a := ⟨w.heap.size, 0, none⟩) Ka.out.1
    replace hzb : w.heap.size + 1 < w2.heap.size := lt_of_cell (a := ⟨w.heap.size + 1, 0, none⟩) Kb.out.1
    go_wp2
    go_ret
    exact ⟨rfl, B.out⟩
  | false =>
    obtain ⟨⟨ne, le⟩, ⟨nr, lr⟩, ⟨ns, ls⟩, ⟨nm, lm⟩, ⟨nt, lt⟩, ⟨np, lp⟩, ⟨nu, lu⟩, ⟨nd, ld⟩, ⟨nf, lf⟩, ⟨nc, lc⟩, ⟨no, lo⟩, z1, h1, h2, h3, h4, h5, h6, h7, h8, h9, h10, h11, h12, h13, h14, h15, h16, h17, h18, h19, h20⟩ := roots_facts hsa.lim hsb.lim hlong (show k ≤ 255 by omega)
    obtain ⟨⟨n1, l1⟩, ho⟩ : ∃ p : Bool × List Nat, p = wOf 1 := ⟨_, rfl⟩
    obtain ⟨⟨n2, l2⟩, ht⟩ : ∃ p : Bool × List Nat, p = wOf 2 := ⟨_, rfl⟩
    have HF1 : Hid (∀ W, Calls Tryd.prog 30 #[.int .i64 1] W (WRes1 (n1, l1) W)) := fun W => by rw [ho]; exact rfrom_any 1 W (by omega) (by omega)
    have HF2 : Hid (∀ W, Calls Tryd.prog 27 #[.int .i64 2] W (WRes1 (n2, l2) W)) := fun W => by rw [ht]; exact from_any 2 W (by omega) (by omega)
    rw [← ho] at h5
    rw [← ht] at h11
    dsimp only at h1 h2 h3 h4 h5 h6 h7 h9 h10 h11 h12 h13 h14 h15 h16 h17 h18 h19 h20
    have H1 := Lib.hid h1
    have H2 := Lib.hid h2
    have H3 := Lib.hid h3
    have H4 := Lib.hid h4
    have H5 := Lib.hid h5
    have H6 := Lib.hid h6
    have H7 := Lib.hid h7
    have H8 := Lib.hid h8
    have H9 := Lib.hid h9
    have H10 := Lib.hid h10
    have H11 := Lib.hid h11
    have H12 := Lib.hid h12
    have H13 := Lib.hid h13
    have H14 := Lib.hid h14
    have H15 := Lib.hid h15
    have H16 := Lib.hid h16
    have H17 := Lib.hid h17
    have H18 := Lib.hid h18
    have H19 := Lib.hid h19
    have H20 := Lib.hid h20
    have Hlong := Lib.hid hlong
    have HSu : Hid (sameB nu lu nu lu = true) := sameB_self _ _
    have HSd : Hid (sameB nd ld nd ld = true) := sameB_self _ _
    have HSc : Hid (sameB nc lc nc lc = true) := sameB_self _ _
    clear hsa hsb hlong ho ht h1 h2 h3 h4 h5 h6 h7 h8 h9 h10 h11 h12 h13 h14 h15 h16 h17 h18 h19 h20
    go_enter Tryd.func7, Tryd.ntmps7
    go_wp2_with fail
    refine (alive_any _).mono ?_
    rintro e w1 ⟨rfl, hb⟩
    have Ka : Hid (Cw w1 w.heap.size na Aa la.length ca) := Cw.keep (Cw.keep (Cw.fresh (by simp) _ _ _ _ _) (blw1 _ _)) hb
    have Kb : Hid (Cw w1 (w.heap.size + 1) nb Ab lb.length cb) := Cw.keep (Cw.fresh (by simp) _ _ _ _ _) hb
    replace Sa : Hid (Sl w1 Aa la ca) := Sl.below ((Sa.out.alloc _).alloc _) hb
    replace Sb : Hid (Sl w1 Ab lb cb) := Sl.below ((Sb.out.alloc _).alloc _) hb
    replace B : Hid (Below w.heap.size w w1) := below_mono (below_mono (below_mono B.out (blw1 _ _)) (blw1 _ _)) hb
    clear hb
    obtain ⟨qa0, qa1⟩ := Ka.out
    obtain ⟨qb0, qb1⟩ := Kb.out
    have hza : w.heap.size < w1.heap.size := lt_of_cell (a := ⟨w.heap.size, 0, none⟩) Ka.out.1
    have hzb : w.heap.size + 1 < w1.heap.size := lt_of_cell (a := ⟨w.heap.size + 1, 0, none⟩) Kb.out.1
    go_wp2_with fail
    refine (long_any 60 _ _ _ _ _ _ _ _ _ _ _ _ _ Sa.out Sb.out Sb.out).mono ?_
    rw [Hlong.out]
    rintro e w2 ⟨rfl, hb⟩
    clear qa0 qa1 qb0 qb1
    replace Ka : Hid (Cw w2 w.heap.size na Aa la.length ca) := Cw.keep Ka.out hb
    replace Kb : Hid (Cw w2 (w.heap.size + 1) nb Ab lb.length cb) := Cw.keep Kb.out hb
    replace Sa : Hid (Sl w2 Aa la ca) := Sl.below Sa.out hb
    replace Sb : Hid (Sl w2 Ab lb cb) := Sl.below Sb.out hb
    replace B : Hid (Below w.heap.size w w2) := below_mono B.out hb
    clear hb
    obtain ⟨qa0, qa1⟩ := Ka.out
    obtain ⟨qb0, qb1⟩ := Kb.out
    replace hza : w.heap.size < w2.heap.size := lt_of_cell (a := ⟨w.heap.size, 0, none⟩) Ka.out.1
    replace hzb : w.heap.size + 1 < w2.heap.size := lt_of_cell (a := ⟨w.heap.size + 1, 0, none⟩) Kb.out.1
    clear qa0 qa1 qb0 qb1
    obtain ⟨qa0, qa1⟩ := Ka.out
    go_wp2_with fail
    refine (rabs_any _ _ _ _ _ Sa.out).mono ?_
    rw [H1.out]
    rintro e w3 ⟨A3, c3, rfl, hs3, hb⟩
    clear qa0 qa1
    replace Ka : Hid (Cw w3 w.heap.size na Aa la.length ca) := Cw.keep Ka.out hb
    replace Kb : Hid (Cw w3 (w.heap.size + 1) nb Ab lb.length cb) := Cw.keep Kb.out hb
    replace Sa : Hid (Sl w3 Aa la ca) := Sl.below Sa.out hb
    replace Sb : Hid (Sl w3 Ab lb cb) := Sl.below Sb.out hb
    replace B : Hid (Below w.heap.size w w3) := below_mono B.out hb
    clear hb
    have Se : Hid (Sl w3 A3 le c3) := hs3
    clear hs3
    (try dsimp only)
    replace hza : w.heap.size < w3.heap.size := lt_of_cell (a := ⟨w.heap.size, 0, none⟩) Ka.out.1
    replace hzb : w.heap.size + 1 < w3.heap.size := lt_of_cell (a := ⟨w.heap.size + 1, 0, none⟩) Kb.out.1
    go_wp2_with fail
    refine (wsqrt_any _ _ _ _ _ (Se.out.alloc _)).mono ?_
    rw [H2.out]
    rintro e w4 ⟨A4, c4, rfl, hs4, hb⟩
    replace Ka : Hid (Cw w4 w.heap.size na Aa la.length ca) := Cw.keep (Cw.keep Ka.out (blw1 _ _)) hb
    replace Kb : Hid (Cw w4 (w.heap.size + 1) nb Ab lb.length cb) := Cw.keep (Cw.keep Kb.out (blw1 _ _)) hb
    have Ke : Hid (Cw w4 w3.heap.size ne A3 le.length c3) := Cw.keep (Cw.fresh (by simp) _ _ _ _ _) hb
    replace Sa : Hid (Sl w4 Aa la ca) := Sl.below (Sa.out.alloc _) hb
    replace Sb : Hid (Sl w4 Ab lb cb) := Sl.below (Sb.out.alloc _) hb
    replace Se : Hid (Sl w4 A3 le c3) := Sl.below (Se.out.alloc _) hb
    replace B : Hid (Below w.heap.size w w4) := below_mono (below_mono B.out (blw1 _ _)) hb
    clear hb
    have Sr : Hid (Sl w4 A4 lr c4) := hs4
    clear hs4
    (try dsimp only)
    replace hza : w.heap.size < w4.heap.size := lt_of_cell (a := ⟨w.heap.size, 0, none⟩) Ka.out.1
    replace hzb : w.heap.size + 1 < w4.heap.size := lt_of_cell (a := ⟨w.heap.size + 1, 0, none⟩) Kb.out.1
    have hze : w3.heap.size < w4.heap.size := lt_of_cell (a := ⟨w3.heap.size, 0, none⟩) Ke.out.1
    go_wp2_with fail
    refine (rcheck_any _ _ _ _ _ (Sr.out.alloc _)).mono ?_
    rw [H3.out]
    rintro e w5 ⟨rfl, hb⟩
    replace Ka : Hid (Cw w5 w.heap.size na Aa la.length ca) := Cw.keep (Cw.keep Ka.out (blw1 _ _)) hb
    replace Kb : Hid (Cw w5 (w.heap.size + 1) nb Ab lb.length cb) := Cw.keep (Cw.keep Kb.out (blw1 _ _)) hb
    replace Ke : Hid (Cw w5 w3.heap.size ne A3 le.length c3) := Cw.keep (Cw.keep Ke.out (blw1 _ _)) hb
    have Kr : Hid (Cw w5 w4.heap.size nr A4 lr.length c4) := Cw.keep (Cw.fresh (by simp) _ _ _ _ _) hb
    replace Sa : Hid (Sl w5 Aa la ca) := Sl.below (Sa.out.alloc _) hb
    replace Sb : Hid (Sl w5 Ab lb cb) := Sl.below (Sb.out.alloc _) hb
    replace Se : Hid (Sl w5 A3 le c3) := Sl.below (Se.out.alloc _) hb
    replace Sr : Hid (Sl w5 A4 lr c4) := Sl.below (Sr.out.alloc _) hb
    replace B : Hid (Below w.heap.size w w5) := below_mono (below_mono B.out (blw1 _ _)) hb
    clear hb
    replace hza : w.heap.size < w5.heap.size := lt_of_cell (a := ⟨w.heap.size, 0, none⟩) Ka.out.1
    replace hzb : w.heap.size + 1 < w5.heap.size := lt_of_cell (a := ⟨w.heap.size + 1, 0, none⟩) Kb.out.1
    replace hze : w3.heap.size < w5.heap.size := lt_of_cell (a := ⟨w3.heap.size, 0, none⟩) Ke.out.1
    have hzr : w4.heap.size < w5.heap.size := lt_of_cell (a := ⟨w4.heap.size, 0, none⟩) Kr.out.1
    obtain ⟨qr0, qr1⟩ := Kr.out
    go_wp2_with fail
    refine (rmul_any _ _ _ _ _ _ _ _ _ Sr.out Sr.out).mono ?_
    rw [H4.out]
    rintro e w6 ⟨A6, c6, rfl, hs6, hb⟩
    clear qr0 qr1
    replace Ka : Hid (Cw w6 w.heap.size na Aa la.length ca) := Cw.keep Ka.out hb
    replace Kb : Hid (Cw w6 (w.heap.size + 1) nb Ab lb.length cb) := Cw.keep Kb.out hb
    replace Ke : Hid (Cw w6 w3.heap.size ne A3 le.length c3) := Cw.keep Ke.out hb
    replace Kr : Hid (Cw w6 w4.heap.size nr A4 lr.length c4) := Cw.keep Kr.out hb
    replace Sa : Hid (Sl w6 Aa la ca) := Sl.below Sa.out hb
    replace Sb : Hid (Sl w6 Ab lb cb) := Sl.below Sb.out hb
    replace Se : Hid (Sl w6 A3 le c3) := Sl.below Se.out hb
    replace Sr : Hid (Sl w6 A4 lr c4) := Sl.below Sr.out hb
    replace B : Hid (Below w.heap.size w w6) := below_mono B.out hb
    clear hb
    have Ss : Hid (Sl w6 A6 ls c6) := hs6
    clear hs6
    (try dsimp only)
    replace hza : w.heap.size < w6.heap.size := lt_of_cell (a := ⟨w.heap.size, 0, none⟩) Ka.out.1
    replace hzb : w.heap.size + 1 < w6.heap.size := lt_of_cell (a := ⟨w.heap.size + 1, 0, none⟩) Kb.out.1
    replace hze : w3.heap.size < w6.heap.size := lt_of_cell (a := ⟨w3.heap.size, 0, none⟩) Ke.out.1
    replace hzr : w4.heap.size < w6.heap.size := lt_of_cell (a := ⟨w4.heap.size, 0, none⟩) Kr.out.1
    go_upto_region 9 with fail
    have X0 : Hid (Below (w6.alloc (.cells #[.bool ns, .slice A6 ls.length c6] 24)).heap.size (w6.alloc (.cells #[.bool ns, .slice A6 ls.length c6] 24)) (w6.alloc (.cells #[.bool ns, .slice A6 ls.length c6] 24)).drew) := (Below.refl _ _).drew
    have Kr0 : Hid (Cw (w6.alloc (.cells #[.bool ns, .slice A6 ls.length c6] 24)).drew w4.heap.size nr A4 lr.length c4) := (Cw.keep Kr.out (blw1 _ _)).drew
    have Sr0 : Hid (Sl (w6.alloc (.cells #[.bool ns, .slice A6 ls.length c6] 24)).drew A4 lr c4) := (Sr.out.alloc _).drew
    have hX : (w6.alloc (.cells #[.bool ns, .slice A6 ls.length c6] 24)).heap.size = w6.heap.size + 1 := by simp
    have HX := Lib.hid hX
    clear hX
    go_cut [14, 15] from 74 to 79 (fun s14 s15 wx => ∃ (gm : Nat) (Am : Option Addr) (cm : Nat), s14 = .pointer (some ⟨gm, 0, none⟩) ∧ w6.heap.size + 1 ≤ gm ∧ Cw wx gm nm Am lm.length cm ∧ Sl wx Am lm cm ∧ Below (w6.alloc (.cells #[.bool ns, .slice A6 ls.length c6] 24)).heap.size (w6.alloc (.cells #[.bool ns, .slice A6 ls.length c6] 24)) wx)
    case first =>
      have HX1 := HX.out
      obtain ⟨q0, q1⟩ := Kr0.out
      go_region_held3 (fun w' => w'.cell? ⟨w4.heap.size, 0, none⟩ = some (.bool nr) ∧ w'.cell? ⟨w4.heap.size, 1, none⟩ = some (.slice A4 lr.length c4))
        (first | exact set2 Kr2.out (by omega) _ _ | exact Kr2.out | exact Kr2.out.keep (blw1 _ _) | exact Kr1.out.keep (blw1 _ _) | exact Kr1.out | exact Kr0.out.keep (blw1 _ _) | exact Kr0.out)
        (first
          | (go_at_call 30; refine (HF1.out _).mono ?_; rintro e v1 ⟨A70, c70, rfl, hs70, hb70⟩; (try dsimp only at hs70); (try dsimp only); have S70 := Lib.hid hs70; (first | (have Y1 := Lib.hid (below_mono X0.out hb70); have Kr1 := Lib.hid (Kr0.out.keep hb70); have Sr1 := Lib.hid (Sr0.out.below hb70)) | (have Y1 := Lib.hid (below_mono (below_mono X0.out (blw1 _ (.cells #[.bool false, .slice none 0 0] 24))) hb70); have Kr1 := Lib.hid ((Kr0.out.keep (blw1 _ (.cells #[.bool false, .slice none 0 0] 24))).keep hb70); have Sr1 := Lib.hid ((Sr0.out.alloc (.cells #[.bool false, .slice none 0 0] 24)).below hb70); have Km1 := Lib.hid (Cw.keep (Cw.fresh (w := (w6.alloc (.cells #[.bool ns, .slice A6 ls.length c6] 24)).drew) (g := w6.heap.size + 1) (by simp) false none 0 0 24) hb70); have Fm1 := Lib.hid (Fw.keep (Fw.fresh (w := (w6.alloc (.cells #[.bool ns, .slice A6 ls.length c6] 24)).drew) (g := w6.heap.size + 1) (by simp) _ 24) (Cw.fresh (w := (w6.alloc (.cells #[.bool ns, .slice A6 ls.length c6] 24)).drew) (g := w6.heap.size + 1) (by simp) false none 0 0 24) hb70))); have hlt1 : w4.heap.size < v1.heap.size := lt_of_cell (a := ⟨w4.heap.size, 0, none⟩) Kr1.out.1)
          | (go_at_call 20; first | (refine (radd_any _ _ _ _ _ _ _ _ _ Sr1.out S70.out).mono ?_; rw [H5.out]; rintro e v2 ⟨A71, c71, rfl, hs71, hb71⟩; (try dsimp only at hs71); (try dsimp only); have S71 := Lib.hid hs71; have Y2 := Lib.hid (below_mono Y1.out hb71); have Kr2 := Lib.hid (Kr1.out.keep hb71); (try (have Km2 := Lib.hid (Km1.out.keep hb71); have Fm2 := Lib.hid (Fw.keep Fm1.out Km1.out hb71); obtain ⟨m0, m1⟩ := Km2.out; obtain ⟨fm0, fm1⟩ := Fm2.out))) | (refine (radd_any _ _ _ _ _ _ _ _ _ (Sr1.out.alloc (.cells #[.bool false, .slice none 0 0] 24)) (S70.out.alloc (.cells #[.bool false, .slice none 0 0] 24))).mono ?_; rw [H5.out]; rintro e v2 ⟨A71, c71, rfl, hs71, hb71⟩; (try dsimp only at hs71); (try dsimp only); have S71 := Lib.hid hs71; have Y2 := Lib.hid (below_mono (below_mono Y1.out (blw1 _ (.cells #[.bool false, .slice none 0 0] 24))) hb71); have Kr2 := Lib.hid ((Kr1.out.keep (blw1 _ (.cells #[.bool false, .slice none 0 0] 24))).keep hb71); have Km2 := Lib.hid (Cw.keep (Cw.fresh (w := v1) rfl false none 0 0 24) hb71); have Fm2 := Lib.hid (Fw.keep (Fw.fresh (w := v1) rfl _ 24) (Cw.fresh (w := v1) rfl false none 0 0 24) hb71); obtain ⟨m0, m1⟩ := Km2.out; obtain ⟨fm0, fm1⟩ := Fm2.out)))
      all_goals
        have hy2 := Y2.out.size
        have hx2 := HX.out
        go_wp2_with fail
        go_meet
        first
          | exact ⟨v2.heap.size, A71, c71, rfl, by omega, Cw.fresh rfl _ _ _ _ _, S71.out.alloc _, below_mono Y2.out (blw1 _ _)⟩
          | exact ⟨w6.heap.size + 1, A71, c71, rfl, by omega, Cw.new Km2.out, S71.out.setW Km2.out.1 Km2.out.2 _ _, below_setW Y2.out (by omega) _ _⟩
          | exact ⟨v1.heap.size, A71, c71, rfl, by have hy1 := Y1.out.size; omega, Cw.new Km2.out, S71.out.setW Km2.out.1 Km2.out.2 _ _, below_setW Y2.out (by have hy1 := Y1.out.size; omega) _ _⟩
    case rest =>
      clear Kr0 Sr0 X0 HX
      obtain ⟨gm, Am, cm, rfl, hge, hcm, hsm, hb⟩ := hcut
      replace Ka : Hid (Cw wc w.heap.size na Aa la.length ca) := Cw.keep (Cw.keep Ka.out (blw1 _ _)) hb
      replace Kb : Hid (Cw wc (w.heap.size + 1) nb Ab lb.length cb) := Cw.keep (Cw.keep Kb.out (blw1 _ _)) hb
      replace Ke : Hid (Cw wc w3.heap.size ne A3 le.length c3) := Cw.keep (Cw.keep Ke.out (blw1 _ _)) hb
      replace Kr : Hid (Cw wc w4.heap.size nr A4 lr.length c4) := Cw.keep (Cw.keep Kr.out (blw1 _ _)) hb
      have Ks : Hid (Cw wc w6.heap.size ns A6 ls.length c6) := Cw.keep (Cw.fresh (by simp) _ _ _ _ _) hb
      replace Sa : Hid (Sl wc Aa la ca) := Sl.below (Sa.out.alloc _) hb
      replace Sb : Hid (Sl wc Ab lb cb) := Sl.below (Sb.out.alloc _) hb
      replace Se : Hid (Sl wc A3 le c3) := Sl.below (Se.out.alloc _) hb
      replace Sr : Hid (Sl wc A4 lr c4) := Sl.below (Sr.out.alloc _) hb
      replace Ss : Hid (Sl wc A6 ls c6) := Sl.below (Ss.out.alloc _) hb
      replace B : Hid (Below w.heap.size w wc) := below_mono (below_mono B.out (blw1 _ _)) hb
      clear hb
      have Km := Lib.hid hcm
      have Sm := Lib.hid hsm
      clear hcm hsm
      replace hza : w.heap.size < wc.heap.size := lt_of_cell (a := ⟨w.heap.size, 0, none⟩) Ka.out.1
      replace hzb : w.heap.size + 1 < wc.heap.size := lt_of_cell (a := ⟨w.heap.size + 1, 0, none⟩) Kb.out.1
      replace hze : w3.heap.size < wc.heap.size := lt_of_cell (a := ⟨w3.heap.size, 0, none⟩) Ke.out.1
      replace hzr : w4.heap.size < wc.heap.size := lt_of_cell (a := ⟨w4.heap.size, 0, none⟩) Kr.out.1
      have hzs : w6.heap.size < wc.heap.size := lt_of_cell (a := ⟨w6.heap.size, 0, none⟩) Ks.out.1
      have hzm : gm < wc.heap.size := lt_of_cell (a := ⟨gm, 0, none⟩) Km.out.1
      obtain ⟨qm0, qm1⟩ := Km.out
      go_wp2_with fail
      refine (rmul_any _ _ _ _ _ _ _ _ _ Sm.out Sm.out).mono ?_
      rw [H6.out]
      rintro e w21 ⟨A21, c21, rfl, hs21, hb⟩
      clear qm0 qm1
      replace Ka : Hid (Cw w21 w.heap.size na Aa la.length ca) := Cw.keep Ka.out hb
      replace Kb : Hid (Cw w21 (w.heap.size + 1) nb Ab lb.length cb) := Cw.keep Kb.out hb
      replace Ke : Hid (Cw w21 w3.heap.size ne A3 le.length c3) := Cw.keep Ke.out hb
      replace Kr : Hid (Cw w21 w4.heap.size nr A4 lr.length c4) := Cw.keep Kr.out hb
      replace Ks : Hid (Cw w21 w6.heap.size ns A6 ls.length c6) := Cw.keep Ks.out hb
      replace Km : Hid (Cw w21 gm nm Am lm.length cm) := Cw.keep Km.out hb
      replace Sa : Hid (Sl w21 Aa la ca) := Sl.below Sa.out hb
      replace Sb : Hid (Sl w21 Ab lb cb) := Sl.below Sb.out hb
      replace Se : Hid (Sl w21 A3 le c3) := Sl.below Se.out hb
      replace Sr : Hid (Sl w21 A4 lr c4) := Sl.below Sr.out hb
      replace Ss : Hid (Sl w21 A6 ls c6) := Sl.below Ss.out hb
      replace Sm : Hid (Sl w21 Am lm cm) := Sl.below Sm.out hb
      replace B : Hid (Below w.heap.size w w21) := below_mono B.out hb
      clear hb
      have St : Hid (Sl w21 A21 lt c21) := hs21
      clear hs21
      (try dsimp only)
      replace hza : w.heap.size < w21.heap.size := lt_of_cell (a := ⟨w.heap.size, 0, none⟩) Ka.out.1
      replace hzb : w.heap.size + 1 < w21.heap.size := lt_of_cell (a := ⟨w.heap.size + 1, 0, none⟩) Kb.out.1
      replace hze : w3.heap.size < w21.heap.size := lt_of_cell (a := ⟨w3.heap.size, 0, none⟩) Ke.out.1
      replace hzr : w4.heap.size < w21.heap.size := lt_of_cell (a := ⟨w4.heap.size, 0, none⟩) Kr.out.1
      replace hzs : w6.heap.size < w21.heap.size := lt_of_cell (a := ⟨w6.heap.size, 0, none⟩) Ks.out.1
      replace hzm : gm < w21.heap.size := lt_of_cell (a := ⟨gm, 0, none⟩) Km.out.1
      obtain ⟨qs0, qs1⟩ := Ks.out
      obtain ⟨qe0, qe1⟩ := Ke.out
      go_wp2_with fail
      refine (rcompared_any _ _ _ _ _ _ _ _ _ (Ss.out.alloc _) (Se.out.alloc _)).mono ?_
      rw [H7.out]
      rintro e w22 ⟨rfl, hb⟩
      clear qs0 qs1 qe0 qe1
      replace Ka : Hid (Cw w22 w.heap.size na Aa la.length ca) := Cw.keep (Cw.keep Ka.out (blw1 _ _)) hb
      replace Kb : Hid (Cw w22 (w.heap.size + 1) nb Ab lb.length cb) := Cw.keep (Cw.keep Kb.out (blw1 _ _)) hb
      replace Ke : Hid (Cw w22 w3.heap.size ne A3 le.length c3) := Cw.keep (Cw.keep Ke.out (blw1 _ _)) hb
      replace Kr : Hid (Cw w22 w4.heap.size nr A4 lr.length c4) := Cw.keep (Cw.keep Kr.out (blw1 _ _)) hb
      replace Ks : Hid (Cw w22 w6.heap.size ns A6 ls.length c6) := Cw.keep (Cw.keep Ks.out (blw1 _ _)) hb
      replace Km : Hid (Cw w22 gm nm Am lm.length cm) := Cw.keep (Cw.keep Km.out (blw1 _ _)) hb
      have Kt : Hid (Cw w22 w21.heap.size nt A21 lt.length c21) := Cw.keep (Cw.fresh (by simp) _ _ _ _ _) hb
      replace Sa : Hid (Sl w22 Aa la ca) := Sl.below (Sa.out.alloc _) hb
      replace Sb : Hid (Sl w22 Ab lb cb) := Sl.below (Sb.out.alloc _) hb
      replace Se : Hid (Sl w22 A3 le c3) := Sl.below (Se.out.alloc _) hb
      replace Sr : Hid (Sl w22 A4 lr c4) := Sl.below (Sr.out.alloc _) hb
      replace Ss : Hid (Sl w22 A6 ls c6) := Sl.below (Ss.out.alloc _) hb
      replace Sm : Hid (Sl w22 Am lm cm) := Sl.below (Sm.out.alloc _) hb
      replace St : Hid (Sl w22 A21 lt c21) := Sl.below (St.out.alloc _) hb
      replace B : Hid (Below w.heap.size w w22) := below_mono (below_mono B.out (blw1 _ _)) hb
      clear hb
      replace hza : w.heap.size < w22.heap.size := lt_of_cell (a := ⟨w.heap.size, 0, none⟩) Ka.out.1
      replace hzb : w.heap.size + 1 < w22.heap.size := lt_of_cell (a := ⟨w.heap.size + 1, 0, none⟩) Kb.out.1
      replace hze : w3.heap.size < w22.heap.size := lt_of_cell (a := ⟨w3.heap.size, 0, none⟩) Ke.out.1
      replace hzr : w4.heap.size < w22.heap.size := lt_of_cell (a := ⟨w4.heap.size, 0, none⟩) Kr.out.1
      replace hzs : w6.heap.size < w22.heap.size := lt_of_cell (a := ⟨w6.heap.size, 0, none⟩) Ks.out.1
      replace hzm : gm < w22.heap.size := lt_of_cell (a := ⟨gm, 0, none⟩) Km.out.1
      have hzt : w21.heap.size < w22.heap.size := lt_of_cell (a := ⟨w21.heap.size, 0, none⟩) Kt.out.1
      obtain ⟨qt0, qt1⟩ := Kt.out
      obtain ⟨qe0, qe1⟩ := Ke.out
      have dz1 : decide (0 < z1) = false := decide_eq_false (by have := H8.out; omega)
      go_wp2_with fail
      refine (rcompared_any _ _ _ _ _ _ _ _ _ St.out Se.out).mono ?_
      rw [H9.out]
      rintro e w23 ⟨rfl, hb⟩
      clear qt0 qt1 qe0 qe1
      replace Ka : Hid (Cw w23 w.heap.size na Aa la.length ca) := Cw.keep Ka.out hb
      replace Kb : Hid (Cw w23 (w.heap.size + 1) nb Ab lb.length cb) := Cw.keep Kb.out hb
      replace Ke : Hid (Cw w23 w3.heap.size ne A3 le.length c3) := Cw.keep Ke.out hb
      replace Kr : Hid (Cw w23 w4.heap.size nr A4 lr.length c4) := Cw.keep Kr.out hb
      replace Ks : Hid (Cw w23 w6.heap.size ns A6 ls.length c6) := Cw.keep Ks.out hb
      replace Km : Hid (Cw w23 gm nm Am lm.length cm) := Cw.keep Km.out hb
      replace Kt : Hid (Cw w23 w21.heap.size nt A21 lt.length c21) := Cw.keep Kt.out hb
      replace Sa : Hid (Sl w23 Aa la ca) := Sl.below Sa.out hb
      replace Sb : Hid (Sl w23 Ab lb cb) := Sl.below Sb.out hb
      replace Se : Hid (Sl w23 A3 le c3) := Sl.below Se.out hb
      replace Sr : Hid (Sl w23 A4 lr c4) := Sl.below Sr.out hb
      replace Ss : Hid (Sl w23 A6 ls c6) := Sl.below Ss.out hb
      replace Sm : Hid (Sl w23 Am lm cm) := Sl.below Sm.out hb
      replace St : Hid (Sl w23 A21 lt c21) := Sl.below St.out hb
      replace B : Hid (Below w.heap.size w w23) := below_mono B.out hb
      clear hb
      replace hza : w.heap.size < w23.heap.size := lt_of_cell (a := ⟨w.heap.size, 0, none⟩) Ka.out.1
      replace hzb : w.heap.size + 1 < w23.heap.size := lt_of_cell (a := ⟨w.heap.size + 1, 0, none⟩) Kb.out.1
      replace hze : w3.heap.size < w23.heap.size := lt_of_cell (a := ⟨w3.heap.size, 0, none⟩) Ke.out.1
      replace hzr : w4.heap.size < w23.heap.size := lt_of_cell (a := ⟨w4.heap.size, 0, none⟩) Kr.out.1
      replace hzs : w6.heap.size < w23.heap.size := lt_of_cell (a := ⟨w6.heap.size, 0, none⟩) Ks.out.1
      replace hzm : gm < w23.heap.size := lt_of_cell (a := ⟨gm, 0, none⟩) Km.out.1
      replace hzt : w21.heap.size < w23.heap.size := lt_of_cell (a := ⟨w21.heap.size, 0, none⟩) Kt.out.1
      obtain ⟨qr0, qr1⟩ := Kr.out
      have hnr := H10.out
      go_wp2_with fail
      refine (HF2.out _).mono ?_
      rintro e w24 ⟨A24, c24, rfl, hs24, hb⟩
      clear qr0 qr1
      replace Ka : Hid (Cw w24 w.heap.size na Aa la.length ca) := Cw.keep Ka.out hb
      replace Kb : Hid (Cw w24 (w.heap.size + 1) nb Ab lb.length cb) := Cw.keep Kb.out hb
      replace Ke : Hid (Cw w24 w3.heap.size ne A3 le.length c3) := Cw.keep Ke.out hb
      replace Kr : Hid (Cw w24 w4.heap.size nr A4 lr.length c4) := Cw.keep Kr.out hb
      replace Ks : Hid (Cw w24 w6.heap.size ns A6 ls.length c6) := Cw.keep Ks.out hb
      replace Km : Hid (Cw w24 gm nm Am lm.length cm) := Cw.keep Km.out hb
      replace Kt : Hid (Cw w24 w21.heap.size nt A21 lt.length c21) := Cw.keep Kt.out hb
      replace Sa : Hid (Sl w24 Aa la ca) := Sl.below Sa.out hb
      replace Sb : Hid (Sl w24 Ab lb cb) := Sl.below Sb.out hb
      replace Se : Hid (Sl w24 A3 le c3) := Sl.below Se.out hb
      replace Sr : Hid (Sl w24 A4 lr c4) := Sl.below Sr.out hb
      replace Ss : Hid (Sl w24 A6 ls c6) := Sl.below Ss.out hb
      replace Sm : Hid (Sl w24 Am lm cm) := Sl.below Sm.out hb
      replace St : Hid (Sl w24 A21 lt c21) := Sl.below St.out hb
      replace B : Hid (Below w.heap.size w w24) := below_mono B.out hb
      clear hb
      have Sw2 : Hid (Sl w24 A24 l2 c24) := hs24
      clear hs24
      (try dsimp only)
      replace hza : w.heap.size < w24.heap.size := lt_of_cell (a := ⟨w.heap.size, 0, none⟩) Ka.out.1
      replace hzb : w.heap.size + 1 < w24.heap.size := lt_of_cell (a := ⟨w.heap.size + 1, 0, none⟩) Kb.out.1
      replace hze : w3.heap.size < w24.heap.size := lt_of_cell (a := ⟨w3.heap.size, 0, none⟩) Ke.out.1
      replace hzr : w4.heap.size < w24.heap.size := lt_of_cell (a := ⟨w4.heap.size, 0, none⟩) Kr.out.1
      replace hzs : w6.heap.size < w24.heap.size := lt_of_cell (a := ⟨w6.heap.size, 0, none⟩) Ks.out.1
      replace hzm : gm < w24.heap.size := lt_of_cell (a := ⟨gm, 0, none⟩) Km.out.1
      replace hzt : w21.heap.size < w24.heap.size := lt_of_cell (a := ⟨w21.heap.size, 0, none⟩) Kt.out.1
      clear hnr
      go_wp2_with fail
      refine (wpow_any _ _ _ _ (k : Int) _ Sw2.out).mono ?_
      rw [H11.out]
      rintro e w25 ⟨A25, c25, rfl, hs25, hb⟩
      replace Ka : Hid (Cw w25 w.heap.size na Aa la.length ca) := Cw.keep Ka.out hb
      replace Kb : Hid (Cw w25 (w.heap.size + 1) nb Ab lb.length cb) := Cw.keep Kb.out hb
      replace Ke : Hid (Cw w25 w3.heap.size ne A3 le.length c3) := Cw.keep Ke.out hb
      replace Kr : Hid (Cw w25 w4.heap.size nr A4 lr.length c4) := Cw.keep Kr.out hb
      replace Ks : Hid (Cw w25 w6.heap.size ns A6 ls.length c6) := Cw.keep Ks.out hb
      replace Km : Hid (Cw w25 gm nm Am lm.length cm) := Cw.keep Km.out hb
      replace Kt : Hid (Cw w25 w21.heap.size nt A21 lt.length c21) := Cw.keep Kt.out hb
      replace Sa : Hid (Sl w25 Aa la ca) := Sl.below Sa.out hb
      replace Sb : Hid (Sl w25 Ab lb cb) := Sl.below Sb.out hb
      replace Se : Hid (Sl w25 A3 le c3) := Sl.below Se.out hb
      replace Sr : Hid (Sl w25 A4 lr c4) := Sl.below Sr.out hb
      replace Ss : Hid (Sl w25 A6 ls c6) := Sl.below Ss.out hb
      replace Sm : Hid (Sl w25 Am lm cm) := Sl.below Sm.out hb
      replace St : Hid (Sl w25 A21 lt c21) := Sl.below St.out hb
      replace Sw2 : Hid (Sl w25 A24 l2 c24) := Sl.below Sw2.out hb
      replace B : Hid (Below w.heap.size w w25) := below_mono B.out hb
      clear hb
      have Sp : Hid (Sl w25 A25 lp c25) := hs25
      clear hs25
      (try dsimp only)
      replace hza : w.heap.size < w25.heap.size := lt_of_cell (a := ⟨w.heap.size, 0, none⟩) Ka.out.1
      replace hzb : w.heap.size + 1 < w25.heap.size := lt_of_cell (a := ⟨w.heap.size + 1, 0, none⟩) Kb.out.1
      replace hze : w3.heap.size < w25.heap.size := lt_of_cell (a := ⟨w3.heap.size, 0, none⟩) Ke.out.1
      replace hzr : w4.heap.size < w25.heap.size := lt_of_cell (a := ⟨w4.heap.size, 0, none⟩) Kr.out.1
      replace hzs : w6.heap.size < w25.heap.size := lt_of_cell (a := ⟨w6.heap.size, 0, none⟩) Ks.out.1
      replace hzm : gm < w25.heap.size := lt_of_cell (a := ⟨gm, 0, none⟩) Km.out.1
      replace hzt : w21.heap.size < w25.heap.size := lt_of_cell (a := ⟨w21.heap.size, 0, none⟩) Kt.out.1
      clear Sw2
      obtain ⟨qa0, qa1⟩ := Ka.out
      go_wp2_with fail
      refine (wshift_any _ _ _ _ (k : Int) _ (Sa.out.alloc _)).mono ?_
      rw [H12.out]
      rintro e w26 ⟨A26, c26, rfl, hs26, hb⟩
      clear qa0 qa1
      replace Ka : Hid (Cw w26 w.heap.size na Aa la.length ca) := Cw.keep (Cw.keep Ka.out (blw1 _ _)) hb
      replace Kb : Hid (Cw w26 (w.heap.size + 1) nb Ab lb.length cb) := Cw.keep (Cw.keep Kb.out (blw1 _ _)) hb
      replace Ke : Hid (Cw w26 w3.heap.size ne A3 le.length c3) := Cw.keep (Cw.keep Ke.out (blw1 _ _)) hb
      replace Kr : Hid (Cw w26 w4.heap.size nr A4 lr.length c4) := Cw.keep (Cw.keep Kr.out (blw1 _ _)) hb
      replace Ks : Hid (Cw w26 w6.heap.size ns A6 ls.length c6) := Cw.keep (Cw.keep Ks.out (blw1 _ _)) hb
      replace Km : Hid (Cw w26 gm nm Am lm.length cm) := Cw.keep (Cw.keep Km.out (blw1 _ _)) hb
      replace Kt : Hid (Cw w26 w21.heap.size nt A21 lt.length c21) := Cw.keep (Cw.keep Kt.out (blw1 _ _)) hb
      have Kp : Hid (Cw w26 w25.heap.size np A25 lp.length c25) := Cw.keep (Cw.fresh (by simp) _ _ _ _ _) hb
      replace Sa : Hid (Sl w26 Aa la ca) := Sl.below (Sa.out.alloc _) hb
      replace Sb : Hid (Sl w26 Ab lb cb) := Sl.below (Sb.out.alloc _) hb
      replace Se : Hid (Sl w26 A3 le c3) := Sl.below (Se.out.alloc _) hb
      replace Sr : Hid (Sl w26 A4 lr c4) := Sl.below (Sr.out.alloc _) hb
      replace Ss : Hid (Sl w26 A6 ls c6) := Sl.below (Ss.out.alloc _) hb
      replace Sm : Hid (Sl w26 Am lm cm) := Sl.below (Sm.out.alloc _) hb
      replace St : Hid (Sl w26 A21 lt c21) := Sl.below (St.out.alloc _) hb
      replace Sp : Hid (Sl w26 A25 lp c25) := Sl.below (Sp.out.alloc _) hb
      replace B : Hid (Below w.heap.size w w26) := below_mono (below_mono B.out (blw1 _ _)) hb
      clear hb
      have Su : Hid (Sl w26 A26 lu c26) := hs26
      clear hs26
      (try dsimp only)
      replace hza : w.heap.size < w26.heap.size := lt_of_cell (a := ⟨w.heap.size, 0, none⟩) Ka.out.1
      replace hzb : w.heap.size + 1 < w26.heap.size := lt_of_cell (a := ⟨w.heap.size + 1, 0, none⟩) Kb.out.1
      replace hze : w3.heap.size < w26.heap.size := lt_of_cell (a := ⟨w3.heap.size, 0, none⟩) Ke.out.1
      replace hzr : w4.heap.size < w26.heap.size := lt_of_cell (a := ⟨w4.heap.size, 0, none⟩) Kr.out.1
      replace hzs : w6.heap.size < w26.heap.size := lt_of_cell (a := ⟨w6.heap.size, 0, none⟩) Ks.out.1
      replace hzm : gm < w26.heap.size := lt_of_cell (a := ⟨gm, 0, none⟩) Km.out.1
      replace hzt : w21.heap.size < w26.heap.size := lt_of_cell (a := ⟨w21.heap.size, 0, none⟩) Kt.out.1
      have hzp : w25.heap.size < w26.heap.size := lt_of_cell (a := ⟨w25.heap.size, 0, none⟩) Kp.out.1
      obtain ⟨qa0, qa1⟩ := Ka.out
      obtain ⟨qp0, qp1⟩ := Kp.out
      go_wp2_with fail
      refine (wmul_any _ _ _ _ _ _ _ _ _ (Sa.out.alloc _) (Sp.out.alloc _)).mono ?_
      rw [H13.out]
      rintro e w27 ⟨A27, c27, rfl, hs27, hb⟩
      clear qa0 qa1 qp0 qp1
      replace Ka : Hid (Cw w27 w.heap.size na Aa la.length ca) := Cw.keep (Cw.keep Ka.out (blw1 _ _)) hb
      replace Kb : Hid (Cw w27 (w.heap.size + 1) nb Ab lb.length cb) := Cw.keep (Cw.keep Kb.out (blw1 _ _)) hb
      replace Ke : Hid (Cw w27 w3.heap.size ne A3 le.length c3) := Cw.keep (Cw.keep Ke.out (blw1 _ _)) hb
      replace Kr : Hid (Cw w27 w4.heap.size nr A4 lr.length c4) := Cw.keep (Cw.keep Kr.out (blw1 _ _)) hb
      replace Ks : Hid (Cw w27 w6.heap.size ns A6 ls.length c6) := Cw.keep (Cw.keep Ks.out (blw1 _ _)) hb
      replace Km : Hid (Cw w27 gm nm Am lm.length cm) := Cw.keep (Cw.keep Km.out (blw1 _ _)) hb
      replace Kt : Hid (Cw w27 w21.heap.size nt A21 lt.length c21) := Cw.keep (Cw.keep Kt.out (blw1 _ _)) hb
      replace Kp : Hid (Cw w27 w25.heap.size np A25 lp.length c25) := Cw.keep (Cw.keep Kp.out (blw1 _ _)) hb
      have Ku : Hid (Cw w27 w26.heap.size nu A26 lu.length c26) := Cw.keep (Cw.fresh (by simp) _ _ _ _ _) hb
      replace Sa : Hid (Sl w27 Aa la ca) := Sl.below (Sa.out.alloc _) hb
      replace Sb : Hid (Sl w27 Ab lb cb) := Sl.below (Sb.out.alloc _) hb
      replace Se : Hid (Sl w27 A3 le c3) := Sl.below (Se.out.alloc _) hb
      replace Sr : Hid (Sl w27 A4 lr c4) := Sl.below (Sr.out.alloc _) hb
      replace Ss : Hid (Sl w27 A6 ls c6) := Sl.below (Ss.out.alloc _) hb
      replace Sm : Hid (Sl w27 Am lm cm) := Sl.below (Sm.out.alloc _) hb
      replace St : Hid (Sl w27 A21 lt c21) := Sl.below (St.out.alloc _) hb
      replace Sp : Hid (Sl w27 A25 lp c25) := Sl.below (Sp.out.alloc _) hb
      replace Su : Hid (Sl w27 A26 lu c26) := Sl.below (Su.out.alloc _) hb
      replace B : Hid (Below w.heap.size w w27) := below_mono (below_mono B.out (blw1 _ _)) hb
      clear hb
      have Sv : Hid (Sl w27 A27 lu c27) := hs27
      clear hs27
      (try dsimp only)
      replace hza : w.heap.size < w27.heap.size := lt_of_cell (a := ⟨w.heap.size, 0, none⟩) Ka.out.1
      replace hzb : w.heap.size + 1 < w27.heap.size := lt_of_cell (a := ⟨w.heap.size + 1, 0, none⟩) Kb.out.1
      replace hze : w3.heap.size < w27.heap.size := lt_of_cell (a := ⟨w3.heap.size, 0, none⟩) Ke.out.1
      replace hzr : w4.heap.size < w27.heap.size := lt_of_cell (a := ⟨w4.heap.size, 0, none⟩) Kr.out.1
      replace hzs : w6.heap.size < w27.heap.size := lt_of_cell (a := ⟨w6.heap.size, 0, none⟩) Ks.out.1
      replace hzm : gm < w27.heap.size := lt_of_cell (a := ⟨gm, 0, none⟩) Km.out.1
      replace hzt : w21.heap.size < w27.heap.size := lt_of_cell (a := ⟨w21.heap.size, 0, none⟩) Kt.out.1
      replace hzp : w25.heap.size < w27.heap.size := lt_of_cell (a := ⟨w25.heap.size, 0, none⟩) Kp.out.1
      have hzu : w26.heap.size < w27.heap.size := lt_of_cell (a := ⟨w26.heap.size, 0, none⟩) Ku.out.1
      obtain ⟨qa0, qa1⟩ := Ka.out
      go_wp2_with fail
      refine (wshift_any _ _ _ _ (-(k : Int)) _ (Sa.out.alloc _)).mono ?_
      rw [H14.out]
      rintro e w28 ⟨A28, c28, rfl, hs28, hb⟩
      clear qa0 qa1
      replace Ka : Hid (Cw w28 w.heap.size na Aa la.length ca) := Cw.keep (Cw.keep Ka.out (blw1 _ _)) hb
      replace Kb : Hid (Cw w28 (w.heap.size + 1) nb Ab lb.length cb) := Cw.keep (Cw.keep Kb.out (blw1 _ _)) hb
      replace Ke : Hid (Cw w28 w3.heap.size ne A3 le.length c3) := Cw.keep (Cw.keep Ke.out (blw1 _ _)) hb
      replace Kr : Hid (Cw w28 w4.heap.size nr A4 lr.length c4) := Cw.keep (Cw.keep Kr.out (blw1 _ _)) hb
      replace Ks : Hid (Cw w28 w6.heap.size ns A6 ls.length c6) := Cw.keep (Cw.keep Ks.out (blw1 _ _)) hb
      replace Km : Hid (Cw w28 gm nm Am lm.length cm) := Cw.keep (Cw.keep Km.out (blw1 _ _)) hb
      replace Kt : Hid (Cw w28 w21.heap.size nt A21 lt.length c21) := Cw.keep (Cw.keep Kt.out (blw1 _ _)) hb
      replace Kp : Hid (Cw w28 w25.heap.size np A25 lp.length c25) := Cw.keep (Cw.keep Kp.out (blw1 _ _)) hb
      replace Ku : Hid (Cw w28 w26.heap.size nu A26 lu.length c26) := Cw.keep (Cw.keep Ku.out (blw1 _ _)) hb
      have Kv : Hid (Cw w28 w27.heap.size nu A27 lu.length c27) := Cw.keep (Cw.fresh (by simp) _ _ _ _ _) hb
      replace Sa : Hid (Sl w28 Aa la ca) := Sl.below (Sa.out.alloc _) hb
      replace Sb : Hid (Sl w28 Ab lb cb) := Sl.below (Sb.out.alloc _) hb
      replace Se : Hid (Sl w28 A3 le c3) := Sl.below (Se.out.alloc _) hb
      replace Sr : Hid (Sl w28 A4 lr c4) := Sl.below (Sr.out.alloc _) hb
      replace Ss : Hid (Sl w28 A6 ls c6) := Sl.below (Ss.out.alloc _) hb
      replace Sm : Hid (Sl w28 Am lm cm) := Sl.below (Sm.out.alloc _) hb
      replace St : Hid (Sl w28 A21 lt c21) := Sl.below (St.out.alloc _) hb
      replace Sp : Hid (Sl w28 A25 lp c25) := Sl.below (Sp.out.alloc _) hb
      replace Su : Hid (Sl w28 A26 lu c26) := Sl.below (Su.out.alloc _) hb
      replace Sv : Hid (Sl w28 A27 lu c27) := Sl.below (Sv.out.alloc _) hb
      replace B : Hid (Below w.heap.size w w28) := below_mono (below_mono B.out (blw1 _ _)) hb
      clear hb
      have Sd : Hid (Sl w28 A28 ld c28) := hs28
      clear hs28
      (try dsimp only)
      replace hza : w.heap.size < w28.heap.size := lt_of_cell (a := ⟨w.heap.size, 0, none⟩) Ka.out.1
      replace hzb : w.heap.size + 1 < w28.heap.size := lt_of_cell (a := ⟨w.heap.size + 1, 0, none⟩) Kb.out.1
      replace hze : w3.heap.size < w28.heap.size := lt_of_cell (a := ⟨w3.heap.size, 0, none⟩) Ke.out.1
      replace hzr : w4.heap.size < w28.heap.size := lt_of_cell (a := ⟨w4.heap.size, 0, none⟩) Kr.out.1
      replace hzs : w6.heap.size < w28.heap.size := lt_of_cell (a := ⟨w6.heap.size, 0, none⟩) Ks.out.1
      replace hzm : gm < w28.heap.size := lt_of_cell (a := ⟨gm, 0, none⟩) Km.out.1
      replace hzt : w21.heap.size < w28.heap.size := lt_of_cell (a := ⟨w21.heap.size, 0, none⟩) Kt.out.1
      replace hzp : w25.heap.size < w28.heap.size := lt_of_cell (a := ⟨w25.heap.size, 0, none⟩) Kp.out.1
      replace hzu : w26.heap.size < w28.heap.size := lt_of_cell (a := ⟨w26.heap.size, 0, none⟩) Ku.out.1
      have hzv : w27.heap.size < w28.heap.size := lt_of_cell (a := ⟨w27.heap.size, 0, none⟩) Kv.out.1
      obtain ⟨qa0, qa1⟩ := Ka.out
      obtain ⟨qp0, qp1⟩ := Kp.out
      go_wp2_with fail
      refine (wdivmod_any _ _ _ _ _ _ _ _ _ (Sa.out.alloc _) (Sp.out.alloc _)).mono ?_
      rw [H15.out]
      rintro e w29 ⟨A29, c29, B29, d29, rfl, hs29, ht29, hb⟩
      clear qa0 qa1 qp0 qp1
      replace Ka : Hid (Cw w29 w.heap.size na Aa la.length ca) := Cw.keep (Cw.keep Ka.out (blw1 _ _)) hb
      replace Kb : Hid (Cw w29 (w.heap.size + 1) nb Ab lb.length cb) := Cw.keep (Cw.keep Kb.out (blw1 _ _)) hb
      replace Ke : Hid (Cw w29 w3.heap.size ne A3 le.length c3) := Cw.keep (Cw.keep Ke.out (blw1 _ _)) hb
      replace Kr : Hid (Cw w29 w4.heap.size nr A4 lr.length c4) := Cw.keep (Cw.keep Kr.out (blw1 _ _)) hb
      replace Ks : Hid (Cw w29 w6.heap.size ns A6 ls.length c6) := Cw.keep (Cw.keep Ks.out (blw1 _ _)) hb
      replace Km : Hid (Cw w29 gm nm Am lm.length cm) := Cw.keep (Cw.keep Km.out (blw1 _ _)) hb
      replace Kt : Hid (Cw w29 w21.heap.size nt A21 lt.length c21) := Cw.keep (Cw.keep Kt.out (blw1 _ _)) hb
      replace Kp : Hid (Cw w29 w25.heap.size np A25 lp.length c25) := Cw.keep (Cw.keep Kp.out (blw1 _ _)) hb
      replace Ku : Hid (Cw w29 w26.heap.size nu A26 lu.length c26) := Cw.keep (Cw.keep Ku.out (blw1 _ _)) hb
      replace Kv : Hid (Cw w29 w27.heap.size nu A27 lu.length c27) := Cw.keep (Cw.keep Kv.out (blw1 _ _)) hb
      have Kd : Hid (Cw w29 w28.heap.size nd A28 ld.length c28) := Cw.keep (Cw.fresh (by simp) _ _ _ _ _) hb
      replace Sa : Hid (Sl w29 Aa la ca) := Sl.below (Sa.out.alloc _) hb
      replace Sb : Hid (Sl w29 Ab lb cb) := Sl.below (Sb.out.alloc _) hb
      replace Se : Hid (Sl w29 A3 le c3) := Sl.below (Se.out.alloc _) hb
      replace Sr : Hid (Sl w29 A4 lr c4) := Sl.below (Sr.out.alloc _) hb
      replace Ss : Hid (Sl w29 A6 ls c6) := Sl.below (Ss.out.alloc _) hb
      replace Sm : Hid (Sl w29 Am lm cm) := Sl.below (Sm.out.alloc _) hb
      replace St : Hid (Sl w29 A21 lt c21) := Sl.below (St.out.alloc _) hb
      replace Sp : Hid (Sl w29 A25 lp c25) := Sl.below (Sp.out.alloc _) hb
      replace Su : Hid (Sl w29 A26 lu c26) := Sl.below (Su.out.alloc _) hb
      replace Sv : Hid (Sl w29 A27 lu c27) := Sl.below (Sv.out.alloc _) hb
      replace Sd : Hid (Sl w29 A28 ld c28) := Sl.below (Sd.out.alloc _) hb
      replace B : Hid (Below w.heap.size w w29) := below_mono (below_mono B.out (blw1 _ _)) hb
      clear hb
      have Sq : Hid (Sl w29 A29 ld c29) := hs29
      have Sf : Hid (Sl w29 B29 lf d29) := ht29
      clear hs29 ht29
      (try dsimp only)
      replace hza : w.heap.size < w29.heap.size := lt_of_cell (a := ⟨w.heap.size, 0, none⟩) Ka.out.1
      replace hzb : w.heap.size + 1 < w29.heap.size := lt_of_cell (a := ⟨w.heap.size + 1, 0, none⟩) Kb.out.1
      replace hze : w3.heap.size < w29.heap.size := lt_of_cell (a := ⟨w3.heap.size, 0, none⟩) Ke.out.1
      replace hzr : w4.heap.size < w29.heap.size := lt_of_cell (a := ⟨w4.heap.size, 0, none⟩) Kr.out.1
      replace hzs : w6.heap.size < w29.heap.size := lt_of_cell (a := ⟨w6.heap.size, 0, none⟩) Ks.out.1
      replace hzm : gm < w29.heap.size := lt_of_cell (a := ⟨gm, 0, none⟩) Km.out.1
      replace hzt : w21.heap.size < w29.heap.size := lt_of_cell (a := ⟨w21.heap.size, 0, none⟩) Kt.out.1
      replace hzp : w25.heap.size < w29.heap.size := lt_of_cell (a := ⟨w25.heap.size, 0, none⟩) Kp.out.1
      replace hzu : w26.heap.size < w29.heap.size := lt_of_cell (a := ⟨w26.heap.size, 0, none⟩) Ku.out.1
      replace hzv : w27.heap.size < w29.heap.size := lt_of_cell (a := ⟨w27.heap.size, 0, none⟩) Kv.out.1
      have hzd : w28.heap.size < w29.heap.size := lt_of_cell (a := ⟨w28.heap.size, 0, none⟩) Kd.out.1
      obtain ⟨qu0, qu1⟩ := Ku.out
      obtain ⟨qv0, qv1⟩ := Kv.out
      go_wp2_with fail
      refine (same_any _ _ _ _ _ _ _ _ _ ((Su.out.alloc _).alloc _) ((Sv.out.alloc _).alloc _)).mono ?_
      rw [HSu.out]
      rintro e w30 ⟨rfl, hb⟩
      clear qu0 qu1 qv0 qv1
      replace Ka : Hid (Cw w30 w.heap.size na Aa la.length ca) := Cw.keep (Cw.keep (Cw.keep Ka.out (blw1 _ _)) (blw1 _ _)) hb
      replace Kb : Hid (Cw w30 (w.heap.size + 1) nb Ab lb.length cb) := Cw.keep (Cw.keep (Cw.keep Kb.out (blw1 _ _)) (blw1 _ _)) hb
      replace Ke : Hid (Cw w30 w3.heap.size ne A3 le.length c3) := Cw.keep (Cw.keep (Cw.keep Ke.out (blw1 _ _)) (blw1 _ _)) hb
      replace Kr : Hid (Cw w30 w4.heap.size nr A4 lr.length c4) := Cw.keep (Cw.keep (Cw.keep Kr.out (blw1 _ _)) (blw1 _ _)) hb
      replace Ks : Hid (Cw w30 w6.heap.size ns A6 ls.length c6) := Cw.keep (Cw.keep (Cw.keep Ks.out (blw1 _ _)) (blw1 _ _)) hb
      replace Km : Hid (Cw w30 gm nm Am lm.length cm) := Cw.keep (Cw.keep (Cw.keep Km.out (blw1 _ _)) (blw1 _ _)) hb
      replace Kt : Hid (Cw w30 w21.heap.size nt A21 lt.length c21) := Cw.keep (Cw.keep (Cw.keep Kt.out (blw1 _ _)) (blw1 _ _)) hb
      replace Kp : Hid (Cw w30 w25.heap.size np A25 lp.length c25) := Cw.keep (Cw.keep (Cw.keep Kp.out (blw1 _ _)) (blw1 _ _)) hb
      replace Ku : Hid (Cw w30 w26.heap.size nu A26 lu.length c26) := Cw.keep (Cw.keep (Cw.keep Ku.out (blw1 _ _)) (blw1 _ _)) hb
      replace Kv : Hid (Cw w30 w27.heap.size nu A27 lu.length c27) := Cw.keep (Cw.keep (Cw.keep Kv.out (blw1 _ _)) (blw1 _ _)) hb
      replace Kd : Hid (Cw w30 w28.heap.size nd A28 ld.length c28) := Cw.keep (Cw.keep (Cw.keep Kd.out (blw1 _ _)) (blw1 _ _)) hb
      have Kq : Hid (Cw w30 w29.heap.size nd A29 ld.length c29) := Cw.keep (Cw.keep (Cw.fresh (by simp) _ _ _ _ _) (blw1 _ _)) hb
      have Kf : Hid (Cw w30 (w29.heap.size + 1) nf B29 lf.length d29) := Cw.keep (Cw.fresh (by simp) _ _ _ _ _) hb
      replace Sa : Hid (Sl w30 Aa la ca) := Sl.below ((Sa.out.alloc _).alloc _) hb
      replace Sb : Hid (Sl w30 Ab lb cb) := Sl.below ((Sb.out.alloc _).alloc _) hb
      replace Se : Hid (Sl w30 A3 le c3) := Sl.below ((Se.out.alloc _).alloc _) hb
      replace Sr : Hid (Sl w30 A4 lr c4) := Sl.below ((Sr.out.alloc _).alloc _) hb
      replace Ss : Hid (Sl w30 A6 ls c6) := Sl.below ((Ss.out.alloc _).alloc _) hb
      replace Sm : Hid (Sl w30 Am lm cm) := Sl.below ((Sm.out.alloc _).alloc _) hb
      replace St : Hid (Sl w30 A21 lt c21) := Sl.below ((St.out.alloc _).alloc _) hb
      replace Sp : Hid (Sl w30 A25 lp c25) := Sl.below ((Sp.out.alloc _).alloc _) hb
      replace Su : Hid (Sl w30 A26 lu c26) := Sl.below ((Su.out.alloc _).alloc _) hb
      replace Sv : Hid (Sl w30 A27 lu c27) := Sl.below ((Sv.out.alloc _).alloc _) hb
      replace Sd : Hid (Sl w30 A28 ld c28) := Sl.below ((Sd.out.alloc _).alloc _) hb
      replace Sq : Hid (Sl w30 A29 ld c29) := Sl.below ((Sq.out.alloc _).alloc _) hb
      replace Sf : Hid (Sl w30 B29 lf d29) := Sl.below ((Sf.out.alloc _).alloc _) hb
      replace B : Hid (Below w.heap.size w w30) := below_mono (below_mono (below_mono B.out (blw1 _ _)) (blw1 _ _)) hb
      clear hb
      replace hza : w.heap.size < w30.heap.size := lt_of_cell (a := ⟨w.heap.size, 0, none⟩) Ka.out.1
      replace hzb : w.heap.size + 1 < w30.heap.size := lt_of_cell (a := ⟨w.heap.size + 1, 0, none⟩) Kb.out.1
      replace hze : w3.heap.size < w30.heap.size := lt_of_cell (a := ⟨w3.heap.size, 0, none⟩) Ke.out.1
      replace hzr : w4.heap.size < w30.heap.size := lt_of_cell (a := ⟨w4.heap.size, 0, none⟩) Kr.out.1
      replace hzs : w6.heap.size < w30.heap.size := lt_of_cell (a := ⟨w6.heap.size, 0, none⟩) Ks.out.1
      replace hzm : gm < w30.heap.size := lt_of_cell (a := ⟨gm, 0, none⟩) Km.out.1
      replace hzt : w21.heap.size < w30.heap.size := lt_of_cell (a := ⟨w21.heap.size, 0, none⟩) Kt.out.1
      replace hzp : w25.heap.size < w30.heap.size := lt_of_cell (a := ⟨w25.heap.size, 0, none⟩) Kp.out.1
      replace hzu : w26.heap.size < w30.heap.size := lt_of_cell (a := ⟨w26.heap.size, 0, none⟩) Ku.out.1
      replace hzv : w27.heap.size < w30.heap.size := lt_of_cell (a := ⟨w27.heap.size, 0, none⟩) Kv.out.1
      replace hzd : w28.heap.size < w30.heap.size := lt_of_cell (a := ⟨w28.heap.size, 0, none⟩) Kd.out.1
      have hzq : w29.heap.size < w30.heap.size := lt_of_cell (a := ⟨w29.heap.size, 0, none⟩) Kq.out.1
      have hzf : w29.heap.size + 1 < w30.heap.size := lt_of_cell (a := ⟨w29.heap.size + 1, 0, none⟩) Kf.out.1
      obtain ⟨qd0, qd1⟩ := Kd.out
      obtain ⟨qq0, qq1⟩ := Kq.out
      go_wp2_with fail
      refine (same_any _ _ _ _ _ _ _ _ _ Sd.out Sq.out).mono ?_
      rw [HSd.out]
      rintro e w31 ⟨rfl, hb⟩
      clear qd0 qd1 qq0 qq1
      replace Ka : Hid (Cw w31 w.heap.size na Aa la.length ca) := Cw.keep Ka.out hb
      replace Kb : Hid (Cw w31 (w.heap.size + 1) nb Ab lb.length cb) := Cw.keep Kb.out hb
      replace Ke : Hid (Cw w31 w3.heap.size ne A3 le.length c3) := Cw.keep Ke.out hb
      replace Kr : Hid (Cw w31 w4.heap.size nr A4 lr.length c4) := Cw.keep Kr.out hb
      replace Ks : Hid (Cw w31 w6.heap.size ns A6 ls.length c6) := Cw.keep Ks.out hb
      replace Km : Hid (Cw w31 gm nm Am lm.length cm) := Cw.keep Km.out hb
      replace Kt : Hid (Cw w31 w21.heap.size nt A21 lt.length c21) := Cw.keep Kt.out hb
      replace Kp : Hid (Cw w31 w25.heap.size np A25 lp.length c25) := Cw.keep Kp.out hb
      replace Ku : Hid (Cw w31 w26.heap.size nu A26 lu.length c26) := Cw.keep Ku.out hb
      replace Kv : Hid (Cw w31 w27.heap.size nu A27 lu.length c27) := Cw.keep Kv.out hb
      replace Kd : Hid (Cw w31 w28.heap.size nd A28 ld.length c28) := Cw.keep Kd.out hb
      replace Kq : Hid (Cw w31 w29.heap.size nd A29 ld.length c29) := Cw.keep Kq.out hb
      replace Kf : Hid (Cw w31 (w29.heap.size + 1) nf B29 lf.length d29) := Cw.keep Kf.out hb
      replace Sa : Hid (Sl w31 Aa la ca) := Sl.below Sa.out hb
      replace Sb : Hid (Sl w31 Ab lb cb) := Sl.below Sb.out hb
      replace Se : Hid (Sl w31 A3 le c3) := Sl.below Se.out hb
      replace Sr : Hid (Sl w31 A4 lr c4) := Sl.below Sr.out hb
      replace Ss : Hid (Sl w31 A6 ls c6) := Sl.below Ss.out hb
      replace Sm : Hid (Sl w31 Am lm cm) := Sl.below Sm.out hb
      replace St : Hid (Sl w31 A21 lt c21) := Sl.below St.out hb
      replace Sp : Hid (Sl w31 A25 lp c25) := Sl.below Sp.out hb
      replace Su : Hid (Sl w31 A26 lu c26) := Sl.below Su.out hb
      replace Sv : Hid (Sl w31 A27 lu c27) := Sl.below Sv.out hb
      replace Sd : Hid (Sl w31 A28 ld c28) := Sl.below Sd.out hb
      replace Sq : Hid (Sl w31 A29 ld c29) := Sl.below Sq.out hb
      replace Sf : Hid (Sl w31 B29 lf d29) := Sl.below Sf.out hb
      replace B : Hid (Below w.heap.size w w31) := below_mono B.out hb
      clear hb
      replace hza : w.heap.size < w31.heap.size := lt_of_cell (a := ⟨w.heap.size, 0, none⟩) Ka.out.1
      replace hzb : w.heap.size + 1 < w31.heap.size := lt_of_cell (a := ⟨w.heap.size + 1, 0, none⟩) Kb.out.1
      replace hze : w3.heap.size < w31.heap.size := lt_of_cell (a := ⟨w3.heap.size, 0, none⟩) Ke.out.1
      replace hzr : w4.heap.size < w31.heap.size := lt_of_cell (a := ⟨w4.heap.size, 0, none⟩) Kr.out.1
      replace hzs : w6.heap.size < w31.heap.size := lt_of_cell (a := ⟨w6.heap.size, 0, none⟩) Ks.out.1
      replace hzm : gm < w31.heap.size := lt_of_cell (a := ⟨gm, 0, none⟩) Km.out.1
      replace hzt : w21.heap.size < w31.heap.size := lt_of_cell (a := ⟨w21.heap.size, 0, none⟩) Kt.out.1
      replace hzp : w25.heap.size < w31.heap.size := lt_of_cell (a := ⟨w25.heap.size, 0, none⟩) Kp.out.1
      replace hzu : w26.heap.size < w31.heap.size := lt_of_cell (a := ⟨w26.heap.size, 0, none⟩) Ku.out.1
      replace hzv : w27.heap.size < w31.heap.size := lt_of_cell (a := ⟨w27.heap.size, 0, none⟩) Kv.out.1
      replace hzd : w28.heap.size < w31.heap.size := lt_of_cell (a := ⟨w28.heap.size, 0, none⟩) Kd.out.1
      replace hzq : w29.heap.size < w31.heap.size := lt_of_cell (a := ⟨w29.heap.size, 0, none⟩) Kq.out.1
      replace hzf : w29.heap.size + 1 < w31.heap.size := lt_of_cell (a := ⟨w29.heap.size + 1, 0, none⟩) Kf.out.1
      obtain ⟨qa0, qa1⟩ := Ka.out
      obtain ⟨qb0, qb1⟩ := Kb.out
      go_wp2_with fail
      refine (wgcd_any _ _ _ _ _ _ _ _ _ Sa.out Sb.out).mono ?_
      rw [H16.out]
      rintro e w32 ⟨A32, c32, rfl, hs32, hb⟩
      clear qa0 qa1 qb0 qb1
      replace Ka : Hid (Cw w32 w.heap.size na Aa la.length ca) := Cw.keep Ka.out hb
      replace Kb : Hid (Cw w32 (w.heap.size + 1) nb Ab lb.length cb) := Cw.keep Kb.out hb
      replace Ke : Hid (Cw w32 w3.heap.size ne A3 le.length c3) := Cw.keep Ke.out hb
      replace Kr : Hid (Cw w32 w4.heap.size nr A4 lr.length c4) := Cw.keep Kr.out hb
      replace Ks : Hid (Cw w32 w6.heap.size ns A6 ls.length c6) := Cw.keep Ks.out hb
      replace Km : Hid (Cw w32 gm nm Am lm.length cm) := Cw.keep Km.out hb
      replace Kt : Hid (Cw w32 w21.heap.size nt A21 lt.length c21) := Cw.keep Kt.out hb
      replace Kp : Hid (Cw w32 w25.heap.size np A25 lp.length c25) := Cw.keep Kp.out hb
      replace Ku : Hid (Cw w32 w26.heap.size nu A26 lu.length c26) := Cw.keep Ku.out hb
      replace Kv : Hid (Cw w32 w27.heap.size nu A27 lu.length c27) := Cw.keep Kv.out hb
      replace Kd : Hid (Cw w32 w28.heap.size nd A28 ld.length c28) := Cw.keep Kd.out hb
      replace Kq : Hid (Cw w32 w29.heap.size nd A29 ld.length c29) := Cw.keep Kq.out hb
      replace Kf : Hid (Cw w32 (w29.heap.size + 1) nf B29 lf.length d29) := Cw.keep Kf.out hb
      replace Sa : Hid (Sl w32 Aa la ca) := Sl.below Sa.out hb
      replace Sb : Hid (Sl w32 Ab lb cb) := Sl.below Sb.out hb
      replace Se : Hid (Sl w32 A3 le c3) := Sl.below Se.out hb
      replace Sr : Hid (Sl w32 A4 lr c4) := Sl.below Sr.out hb
      replace Ss : Hid (Sl w32 A6 ls c6) := Sl.below Ss.out hb
      replace Sm : Hid (Sl w32 Am lm cm) := Sl.below Sm.out hb
      replace St : Hid (Sl w32 A21 lt c21) := Sl.below St.out hb
      replace Sp : Hid (Sl w32 A25 lp c25) := Sl.below Sp.out hb
      replace Su : Hid (Sl w32 A26 lu c26) := Sl.below Su.out hb
      replace Sv : Hid (Sl w32 A27 lu c27) := Sl.below Sv.out hb
      replace Sd : Hid (Sl w32 A28 ld c28) := Sl.below Sd.out hb
      replace Sq : Hid (Sl w32 A29 ld c29) := Sl.below Sq.out hb
      replace Sf : Hid (Sl w32 B29 lf d29) := Sl.below Sf.out hb
      replace B : Hid (Below w.heap.size w w32) := below_mono B.out hb
      clear hb
      have Sc : Hid (Sl w32 A32 lc c32) := hs32
      clear hs32
      (try dsimp only)
      replace hza : w.heap.size < w32.heap.size := lt_of_cell (a := ⟨w.heap.size, 0, none⟩) Ka.out.1
      replace hzb : w.heap.size + 1 < w32.heap.size := lt_of_cell (a := ⟨w.heap.size + 1, 0, none⟩) Kb.out.1
      replace hze : w3.heap.size < w32.heap.size := lt_of_cell (a := ⟨w3.heap.size, 0, none⟩) Ke.out.1
      replace hzr : w4.heap.size < w32.heap.size := lt_of_cell (a := ⟨w4.heap.size, 0, none⟩) Kr.out.1
      replace hzs : w6.heap.size < w32.heap.size := lt_of_cell (a := ⟨w6.heap.size, 0, none⟩) Ks.out.1
      replace hzm : gm < w32.heap.size := lt_of_cell (a := ⟨gm, 0, none⟩) Km.out.1
      replace hzt : w21.heap.size < w32.heap.size := lt_of_cell (a := ⟨w21.heap.size, 0, none⟩) Kt.out.1
      replace hzp : w25.heap.size < w32.heap.size := lt_of_cell (a := ⟨w25.heap.size, 0, none⟩) Kp.out.1
      replace hzu : w26.heap.size < w32.heap.size := lt_of_cell (a := ⟨w26.heap.size, 0, none⟩) Ku.out.1
      replace hzv : w27.heap.size < w32.heap.size := lt_of_cell (a := ⟨w27.heap.size, 0, none⟩) Kv.out.1
      replace hzd : w28.heap.size < w32.heap.size := lt_of_cell (a := ⟨w28.heap.size, 0, none⟩) Kd.out.1
      replace hzq : w29.heap.size < w32.heap.size := lt_of_cell (a := ⟨w29.heap.size, 0, none⟩) Kq.out.1
      replace hzf : w29.heap.size + 1 < w32.heap.size := lt_of_cell (a := ⟨w29.heap.size + 1, 0, none⟩) Kf.out.1
      obtain ⟨qa0, qa1⟩ := Ka.out
      obtain ⟨qb0, qb1⟩ := Kb.out
      go_wp2_with fail
      refine (wadd_any _ _ _ _ _ _ _ _ _ (Sa.out.alloc _) (Sb.out.alloc _)).mono ?_
      rw [H17.out]
      rintro e w33 ⟨A33, c33, rfl, hs33, hb⟩
      clear qa0 qa1 qb0 qb1
      replace Ka : Hid (Cw w33 w.heap.size na Aa la.length ca) := Cw.keep (Cw.keep Ka.out (blw1 _ _)) hb
      replace Kb : Hid (Cw w33 (w.heap.size + 1) nb Ab lb.length cb) := Cw.keep (Cw.keep Kb.out (blw1 _ _)) hb
      replace Ke : Hid (Cw w33 w3.heap.size ne A3 le.length c3) := Cw.keep (Cw.keep Ke.out (blw1 _ _)) hb
      replace Kr : Hid (Cw w33 w4.heap.size nr A4 lr.length c4) := Cw.keep (Cw.keep Kr.out (blw1 _ _)) hb
      replace Ks : Hid (Cw w33 w6.heap.size ns A6 ls.length c6) := Cw.keep (Cw.keep Ks.out (blw1 _ _)) hb
      replace Km : Hid (Cw w33 gm nm Am lm.length cm) := Cw.keep (Cw.keep Km.out (blw1 _ _)) hb
      replace Kt : Hid (Cw w33 w21.heap.size nt A21 lt.length c21) := Cw.keep (Cw.keep Kt.out (blw1 _ _)) hb
      replace Kp : Hid (Cw w33 w25.heap.size np A25 lp.length c25) := Cw.keep (Cw.keep Kp.out (blw1 _ _)) hb
      replace Ku : Hid (Cw w33 w26.heap.size nu A26 lu.length c26) := Cw.keep (Cw.keep Ku.out (blw1 _ _)) hb
      replace Kv : Hid (Cw w33 w27.heap.size nu A27 lu.length c27) := Cw.keep (Cw.keep Kv.out (blw1 _ _)) hb
      replace Kd : Hid (Cw w33 w28.heap.size nd A28 ld.length c28) := Cw.keep (Cw.keep Kd.out (blw1 _ _)) hb
      replace Kq : Hid (Cw w33 w29.heap.size nd A29 ld.length c29) := Cw.keep (Cw.keep Kq.out (blw1 _ _)) hb
      replace Kf : Hid (Cw w33 (w29.heap.size + 1) nf B29 lf.length d29) := Cw.keep (Cw.keep Kf.out (blw1 _ _)) hb
      have Kc : Hid (Cw w33 w32.heap.size nc A32 lc.length c32) := Cw.keep (Cw.fresh (by simp) _ _ _ _ _) hb
      replace Sa : Hid (Sl w33 Aa la ca) := Sl.below (Sa.out.alloc _) hb
      replace Sb : Hid (Sl w33 Ab lb cb) := Sl.below (Sb.out.alloc _) hb
      replace Se : Hid (Sl w33 A3 le c3) := Sl.below (Se.out.alloc _) hb
      replace Sr : Hid (Sl w33 A4 lr c4) := Sl.below (Sr.out.alloc _) hb
      replace Ss : Hid (Sl w33 A6 ls c6) := Sl.below (Ss.out.alloc _) hb
      replace Sm : Hid (Sl w33 Am lm cm) := Sl.below (Sm.out.alloc _) hb
      replace St : Hid (Sl w33 A21 lt c21) := Sl.below (St.out.alloc _) hb
      replace Sp : Hid (Sl w33 A25 lp c25) := Sl.below (Sp.out.alloc _) hb
      replace Su : Hid (Sl w33 A26 lu c26) := Sl.below (Su.out.alloc _) hb
      replace Sv : Hid (Sl w33 A27 lu c27) := Sl.below (Sv.out.alloc _) hb
      replace Sd : Hid (Sl w33 A28 ld c28) := Sl.below (Sd.out.alloc _) hb
      replace Sq : Hid (Sl w33 A29 ld c29) := Sl.below (Sq.out.alloc _) hb
      replace Sf : Hid (Sl w33 B29 lf d29) := Sl.below (Sf.out.alloc _) hb
      replace Sc : Hid (Sl w33 A32 lc c32) := Sl.below (Sc.out.alloc _) hb
      replace B : Hid (Below w.heap.size w w33) := below_mono (below_mono B.out (blw1 _ _)) hb
      clear hb
      have So : Hid (Sl w33 A33 lo c33) := hs33
      clear hs33
      (try dsimp only)
      replace hza : w.heap.size < w33.heap.size := lt_of_cell (a := ⟨w.heap.size, 0, none⟩) Ka.out.1
      replace hzb : w.heap.size + 1 < w33.heap.size := lt_of_cell (a := ⟨w.heap.size + 1, 0, none⟩) Kb.out.1
      replace hze : w3.heap.size < w33.heap.size := lt_of_cell (a := ⟨w3.heap.size, 0, none⟩) Ke.out.1
      replace hzr : w4.heap.size < w33.heap.size := lt_of_cell (a := ⟨w4.heap.size, 0, none⟩) Kr.out.1
      replace hzs : w6.heap.size < w33.heap.size := lt_of_cell (a := ⟨w6.heap.size, 0, none⟩) Ks.out.1
      replace hzm : gm < w33.heap.size := lt_of_cell (a := ⟨gm, 0, none⟩) Km.out.1
      replace hzt : w21.heap.size < w33.heap.size := lt_of_cell (a := ⟨w21.heap.size, 0, none⟩) Kt.out.1
      replace hzp : w25.heap.size < w33.heap.size := lt_of_cell (a := ⟨w25.heap.size, 0, none⟩) Kp.out.1
      replace hzu : w26.heap.size < w33.heap.size := lt_of_cell (a := ⟨w26.heap.size, 0, none⟩) Ku.out.1
      replace hzv : w27.heap.size < w33.heap.size := lt_of_cell (a := ⟨w27.heap.size, 0, none⟩) Kv.out.1
      replace hzd : w28.heap.size < w33.heap.size := lt_of_cell (a := ⟨w28.heap.size, 0, none⟩) Kd.out.1
      replace hzq : w29.heap.size < w33.heap.size := lt_of_cell (a := ⟨w29.heap.size, 0, none⟩) Kq.out.1
      replace hzf : w29.heap.size + 1 < w33.heap.size := lt_of_cell (a := ⟨w29.heap.size + 1, 0, none⟩) Kf.out.1
      have hzc : w32.heap.size < w33.heap.size := lt_of_cell (a := ⟨w32.heap.size, 0, none⟩) Kc.out.1
      obtain ⟨qb0, qb1⟩ := Kb.out
      go_wp2_with fail
      refine (wgcd_any _ _ _ _ _ _ _ _ _ (So.out.alloc _) (Sb.out.alloc _)).mono ?_
      rw [H18.out]
      rintro e w34 ⟨A34, c34, rfl, hs34, hb⟩
      clear qb0 qb1
      replace Ka : Hid (Cw w34 w.heap.size na Aa la.length ca) := Cw.keep (Cw.keep Ka.out (blw1 _ _)) hb
      replace Kb : Hid (Cw w34 (w.heap.size + 1) nb Ab lb.length cb) := Cw.keep (Cw.keep Kb.out (blw1 _ _)) hb
      replace Ke : Hid (Cw w34 w3.heap.size ne A3 le.length c3) := Cw.keep (Cw.keep Ke.out (blw1 _ _)) hb
      replace Kr : Hid (Cw w34 w4.heap.size nr A4 lr.length c4) := Cw.keep (Cw.keep Kr.out (blw1 _ _)) hb
      replace Ks : Hid (Cw w34 w6.heap.size ns A6 ls.length c6) := Cw.keep (Cw.keep Ks.out (blw1 _ _)) hb
      replace Km : Hid (Cw w34 gm nm Am lm.length cm) := Cw.keep (Cw.keep Km.out (blw1 _ _)) hb
      replace Kt : Hid (Cw w34 w21.heap.size nt A21 lt.length c21) := Cw.keep (Cw.keep Kt.out (blw1 _ _)) hb
      replace Kp : Hid (Cw w34 w25.heap.size np A25 lp.length c25) := Cw.keep (Cw.keep Kp.out (blw1 _ _)) hb
      replace Ku : Hid (Cw w34 w26.heap.size nu A26 lu.length c26) := Cw.keep (Cw.keep Ku.out (blw1 _ _)) hb
      replace Kv : Hid (Cw w34 w27.heap.size nu A27 lu.length c27) := Cw.keep (Cw.keep Kv.out (blw1 _ _)) hb
      replace Kd : Hid (Cw w34 w28.heap.size nd A28 ld.length c28) := Cw.keep (Cw.keep Kd.out (blw1 _ _)) hb
      replace Kq : Hid (Cw w34 w29.heap.size nd A29 ld.length c29) := Cw.keep (Cw.keep Kq.out (blw1 _ _)) hb
      replace Kf : Hid (Cw w34 (w29.heap.size + 1) nf B29 lf.length d29) := Cw.keep (Cw.keep Kf.out (blw1 _ _)) hb
      replace Kc : Hid (Cw w34 w32.heap.size nc A32 lc.length c32) := Cw.keep (Cw.keep Kc.out (blw1 _ _)) hb
      have Ko : Hid (Cw w34 w33.heap.size no A33 lo.length c33) := Cw.keep (Cw.fresh (by simp) _ _ _ _ _) hb
      replace Sa : Hid (Sl w34 Aa la ca) := Sl.below (Sa.out.alloc _) hb
      replace Sb : Hid (Sl w34 Ab lb cb) := Sl.below (Sb.out.alloc _) hb
      replace Se : Hid (Sl w34 A3 le c3) := Sl.below (Se.out.alloc _) hb
      replace Sr : Hid (Sl w34 A4 lr c4) := Sl.below (Sr.out.alloc _) hb
      replace Ss : Hid (Sl w34 A6 ls c6) := Sl.below (Ss.out.alloc _) hb
      replace Sm : Hid (Sl w34 Am lm cm) := Sl.below (Sm.out.alloc _) hb
      replace St : Hid (Sl w34 A21 lt c21) := Sl.below (St.out.alloc _) hb
      replace Sp : Hid (Sl w34 A25 lp c25) := Sl.below (Sp.out.alloc _) hb
      replace Su : Hid (Sl w34 A26 lu c26) := Sl.below (Su.out.alloc _) hb
      replace Sv : Hid (Sl w34 A27 lu c27) := Sl.below (Sv.out.alloc _) hb
      replace Sd : Hid (Sl w34 A28 ld c28) := Sl.below (Sd.out.alloc _) hb
      replace Sq : Hid (Sl w34 A29 ld c29) := Sl.below (Sq.out.alloc _) hb
      replace Sf : Hid (Sl w34 B29 lf d29) := Sl.below (Sf.out.alloc _) hb
      replace Sc : Hid (Sl w34 A32 lc c32) := Sl.below (Sc.out.alloc _) hb
      replace So : Hid (Sl w34 A33 lo c33) := Sl.below (So.out.alloc _) hb
      replace B : Hid (Below w.heap.size w w34) := below_mono (below_mono B.out (blw1 _ _)) hb
      clear hb
      have Sg : Hid (Sl w34 A34 lc c34) := hs34
      clear hs34
      (try dsimp only)
      replace hza : w.heap.size < w34.heap.size := lt_of_cell (a := ⟨w.heap.size, 0, none⟩) Ka.out.1
      replace hzb : w.heap.size + 1 < w34.heap.size := lt_of_cell (a := ⟨w.heap.size + 1, 0, none⟩) Kb.out.1
      replace hze : w3.heap.size < w34.heap.size := lt_of_cell (a := ⟨w3.heap.size, 0, none⟩) Ke.out.1
      replace hzr : w4.heap.size < w34.heap.size := lt_of_cell (a := ⟨w4.heap.size, 0, none⟩) Kr.out.1
      replace hzs : w6.heap.size < w34.heap.size := lt_of_cell (a := ⟨w6.heap.size, 0, none⟩) Ks.out.1
      replace hzm : gm < w34.heap.size := lt_of_cell (a := ⟨gm, 0, none⟩) Km.out.1
      replace hzt : w21.heap.size < w34.heap.size := lt_of_cell (a := ⟨w21.heap.size, 0, none⟩) Kt.out.1
      replace hzp : w25.heap.size < w34.heap.size := lt_of_cell (a := ⟨w25.heap.size, 0, none⟩) Kp.out.1
      replace hzu : w26.heap.size < w34.heap.size := lt_of_cell (a := ⟨w26.heap.size, 0, none⟩) Ku.out.1
      replace hzv : w27.heap.size < w34.heap.size := lt_of_cell (a := ⟨w27.heap.size, 0, none⟩) Kv.out.1
      replace hzd : w28.heap.size < w34.heap.size := lt_of_cell (a := ⟨w28.heap.size, 0, none⟩) Kd.out.1
      replace hzq : w29.heap.size < w34.heap.size := lt_of_cell (a := ⟨w29.heap.size, 0, none⟩) Kq.out.1
      replace hzf : w29.heap.size + 1 < w34.heap.size := lt_of_cell (a := ⟨w29.heap.size + 1, 0, none⟩) Kf.out.1
      replace hzc : w32.heap.size < w34.heap.size := lt_of_cell (a := ⟨w32.heap.size, 0, none⟩) Kc.out.1
      have hzo : w33.heap.size < w34.heap.size := lt_of_cell (a := ⟨w33.heap.size, 0, none⟩) Ko.out.1
      obtain ⟨qc0, qc1⟩ := Kc.out
      go_wp2_with fail
      refine (same_any _ _ _ _ _ _ _ _ _ (Sc.out.alloc _) (Sg.out.alloc _)).mono ?_
      rw [HSc.out]
      rintro e w35 ⟨rfl, hb⟩
      clear qc0 qc1
      replace Ka : Hid (Cw w35 w.heap.size na Aa la.length ca) := Cw.keep (Cw.keep Ka.out (blw1 _ _)) hb
      replace Kb : Hid (Cw w35 (w.heap.size + 1) nb Ab lb.length cb) := Cw.keep (Cw.keep Kb.out (blw1 _ _)) hb
      replace Ke : Hid (Cw w35 w3.heap.size ne A3 le.length c3) := Cw.keep (Cw.keep Ke.out (blw1 _ _)) hb
      replace Kr : Hid (Cw w35 w4.heap.size nr A4 lr.length c4) := Cw.keep (Cw.keep Kr.out (blw1 _ _)) hb
      replace Ks : Hid (Cw w35 w6.heap.size ns A6 ls.length c6) := Cw.keep (Cw.keep Ks.out (blw1 _ _)) hb
      replace Km : Hid (Cw w35 gm nm Am lm.length cm) := Cw.keep (Cw.keep Km.out (blw1 _ _)) hb
      replace Kt : Hid (Cw w35 w21.heap.size nt A21 lt.length c21) := Cw.keep (Cw.keep Kt.out (blw1 _ _)) hb
      replace Kp : Hid (Cw w35 w25.heap.size np A25 lp.length c25) := Cw.keep (Cw.keep Kp.out (blw1 _ _)) hb
      replace Ku : Hid (Cw w35 w26.heap.size nu A26 lu.length c26) := Cw.keep (Cw.keep Ku.out (blw1 _ _)) hb
      replace Kv : Hid (Cw w35 w27.heap.size nu A27 lu.length c27) := Cw.keep (Cw.keep Kv.out (blw1 _ _)) hb
      replace Kd : Hid (Cw w35 w28.heap.size nd A28 ld.length c28) := Cw.keep (Cw.keep Kd.out (blw1 _ _)) hb
      replace Kq : Hid (Cw w35 w29.heap.size nd A29 ld.length c29) := Cw.keep (Cw.keep Kq.out (blw1 _ _)) hb
      replace Kf : Hid (Cw w35 (w29.heap.size + 1) nf B29 lf.length d29) := Cw.keep (Cw.keep Kf.out (blw1 _ _)) hb
      replace Kc : Hid (Cw w35 w32.heap.size nc A32 lc.length c32) := Cw.keep (Cw.keep Kc.out (blw1 _ _)) hb
      replace Ko : Hid (Cw w35 w33.heap.size no A33 lo.length c33) := Cw.keep (Cw.keep Ko.out (blw1 _ _)) hb
      have Kg : Hid (Cw w35 w34.heap.size nc A34 lc.length c34) := Cw.keep (Cw.fresh (by simp) _ _ _ _ _) hb
      replace Sa : Hid (Sl w35 Aa la ca) := Sl.below (Sa.out.alloc _) hb
      replace Sb : Hid (Sl w35 Ab lb cb) := Sl.below (Sb.out.alloc _) hb
      replace Se : Hid (Sl w35 A3 le c3) := Sl.below (Se.out.alloc _) hb
      replace Sr : Hid (Sl w35 A4 lr c4) := Sl.below (Sr.out.alloc _) hb
      replace Ss : Hid (Sl w35 A6 ls c6) := Sl.below (Ss.out.alloc _) hb
      replace Sm : Hid (Sl w35 Am lm cm) := Sl.below (Sm.out.alloc _) hb
      replace St : Hid (Sl w35 A21 lt c21) := Sl.below (St.out.alloc _) hb
      replace Sp : Hid (Sl w35 A25 lp c25) := Sl.below (Sp.out.alloc _) hb
      replace Su : Hid (Sl w35 A26 lu c26) := Sl.below (Su.out.alloc _) hb
      replace Sv : Hid (Sl w35 A27 lu c27) := Sl.below (Sv.out.alloc _) hb
      replace Sd : Hid (Sl w35 A28 ld c28) := Sl.below (Sd.out.alloc _) hb
      replace Sq : Hid (Sl w35 A29 ld c29) := Sl.below (Sq.out.alloc _) hb
      replace Sf : Hid (Sl w35 B29 lf d29) := Sl.below (Sf.out.alloc _) hb
      replace Sc : Hid (Sl w35 A32 lc c32) := Sl.below (Sc.out.alloc _) hb
      replace So : Hid (Sl w35 A33 lo c33) := Sl.below (So.out.alloc _) hb
      replace Sg : Hid (Sl w35 A34 lc c34) := Sl.below (Sg.out.alloc _) hb
      replace B : Hid (Below w.heap.size w w35) := below_mono (below_mono B.out (blw1 _ _)) hb
      clear hb
      replace hza : w.heap.size < w35.heap.size := lt_of_cell (a := ⟨w.heap.size, 0, none⟩) Ka.out.1
      replace hzb : w.heap.size + 1 < w35.heap.size := lt_of_cell (a := ⟨w.heap.size + 1, 0, none⟩) Kb.out.1
      replace hze : w3.heap.size < w35.heap.size := lt_of_cell (a := ⟨w3.heap.size, 0, none⟩) Ke.out.1
      replace hzr : w4.heap.size < w35.heap.size := lt_of_cell (a := ⟨w4.heap.size, 0, none⟩) Kr.out.1
      replace hzs : w6.heap.size < w35.heap.size := lt_of_cell (a := ⟨w6.heap.size, 0, none⟩) Ks.out.1
      replace hzm : gm < w35.heap.size := lt_of_cell (a := ⟨gm, 0, none⟩) Km.out.1
      replace hzt : w21.heap.size < w35.heap.size := lt_of_cell (a := ⟨w21.heap.size, 0, none⟩) Kt.out.1
      replace hzp : w25.heap.size < w35.heap.size := lt_of_cell (a := ⟨w25.heap.size, 0, none⟩) Kp.out.1
      replace hzu : w26.heap.size < w35.heap.size := lt_of_cell (a := ⟨w26.heap.size, 0, none⟩) Ku.out.1
      replace hzv : w27.heap.size < w35.heap.size := lt_of_cell (a := ⟨w27.heap.size, 0, none⟩) Kv.out.1
      replace hzd : w28.heap.size < w35.heap.size := lt_of_cell (a := ⟨w28.heap.size, 0, none⟩) Kd.out.1
      replace hzq : w29.heap.size < w35.heap.size := lt_of_cell (a := ⟨w29.heap.size, 0, none⟩) Kq.out.1
      replace hzf : w29.heap.size + 1 < w35.heap.size := lt_of_cell (a := ⟨w29.heap.size + 1, 0, none⟩) Kf.out.1
      replace hzc : w32.heap.size < w35.heap.size := lt_of_cell (a := ⟨w32.heap.size, 0, none⟩) Kc.out.1
      replace hzo : w33.heap.size < w35.heap.size := lt_of_cell (a := ⟨w33.heap.size, 0, none⟩) Ko.out.1
      have hzg : w34.heap.size < w35.heap.size := lt_of_cell (a := ⟨w34.heap.size, 0, none⟩) Kg.out.1
      obtain ⟨qc0, qc1⟩ := Kc.out
      go_wp2_with fail
      refine (rcheck_any _ _ _ _ _ Sc.out).mono ?_
      rw [H19.out]
      rintro e w36 ⟨rfl, hb⟩
      clear qc0 qc1
      replace Ka : Hid (Cw w36 w.heap.size na Aa la.length ca) := Cw.keep Ka.out hb
      replace Kb : Hid (Cw w36 (w.heap.size + 1) nb Ab lb.length cb) := Cw.keep Kb.out hb
      replace Ke : Hid (Cw w36 w3.heap.size ne A3 le.length c3) := Cw.keep Ke.out hb
      replace Kr : Hid (Cw w36 w4.heap.size nr A4 lr.length c4) := Cw.keep Kr.out hb
      replace Ks : Hid (Cw w36 w6.heap.size ns A6 ls.length c6) := Cw.keep Ks.out hb
      replace Km : Hid (Cw w36 gm nm Am lm.length cm) := Cw.keep Km.out hb
      replace Kt : Hid (Cw w36 w21.heap.size nt A21 lt.length c21) := Cw.keep Kt.out hb
      replace Kp : Hid (Cw w36 w25.heap.size np A25 lp.length c25) := Cw.keep Kp.out hb
      replace Ku : Hid (Cw w36 w26.heap.size nu A26 lu.length c26) := Cw.keep Ku.out hb
      replace Kv : Hid (Cw w36 w27.heap.size nu A27 lu.length c27) := Cw.keep Kv.out hb
      replace Kd : Hid (Cw w36 w28.heap.size nd A28 ld.length c28) := Cw.keep Kd.out hb
      replace Kq : Hid (Cw w36 w29.heap.size nd A29 ld.length c29) := Cw.keep Kq.out hb
      replace Kf : Hid (Cw w36 (w29.heap.size + 1) nf B29 lf.length d29) := Cw.keep Kf.out hb
      replace Kc : Hid (Cw w36 w32.heap.size nc A32 lc.length c32) := Cw.keep Kc.out hb
      replace Ko : Hid (Cw w36 w33.heap.size no A33 lo.length c33) := Cw.keep Ko.out hb
      replace Kg : Hid (Cw w36 w34.heap.size nc A34 lc.length c34) := Cw.keep Kg.out hb
      replace Sa : Hid (Sl w36 Aa la ca) := Sl.below Sa.out hb
      replace Sb : Hid (Sl w36 Ab lb cb) := Sl.below Sb.out hb
      replace Se : Hid (Sl w36 A3 le c3) := Sl.below Se.out hb
      replace Sr : Hid (Sl w36 A4 lr c4) := Sl.below Sr.out hb
      replace Ss : Hid (Sl w36 A6 ls c6) := Sl.below Ss.out hb
      replace Sm : Hid (Sl w36 Am lm cm) := Sl.below Sm.out hb
      replace St : Hid (Sl w36 A21 lt c21) := Sl.below St.out hb
      replace Sp : Hid (Sl w36 A25 lp c25) := Sl.below Sp.out hb
      replace Su : Hid (Sl w36 A26 lu c26) := Sl.below Su.out hb
      replace Sv : Hid (Sl w36 A27 lu c27) := Sl.below Sv.out hb
      replace Sd : Hid (Sl w36 A28 ld c28) := Sl.below Sd.out hb
      replace Sq : Hid (Sl w36 A29 ld c29) := Sl.below Sq.out hb
      replace Sf : Hid (Sl w36 B29 lf d29) := Sl.below Sf.out hb
      replace Sc : Hid (Sl w36 A32 lc c32) := Sl.below Sc.out hb
      replace So : Hid (Sl w36 A33 lo c33) := Sl.below So.out hb
      replace Sg : Hid (Sl w36 A34 lc c34) := Sl.below Sg.out hb
      replace B : Hid (Below w.heap.size w w36) := below_mono B.out hb
      clear hb
      replace hza : w.heap.size < w36.heap.size := lt_of_cell (a := ⟨w.heap.size, 0, none⟩) Ka.out.1
      replace hzb : w.heap.size + 1 < w36.heap.size := lt_of_cell (a := ⟨w.heap.size + 1, 0, none⟩) Kb.out.1
      replace hze : w3.heap.size < w36.heap.size := lt_of_cell (a := ⟨w3.heap.size, 0, none⟩) Ke.out.1
      replace hzr : w4.heap.size < w36.heap.size := lt_of_cell (a := ⟨w4.heap.size, 0, none⟩) Kr.out.1
      replace hzs : w6.heap.size < w36.heap.size := lt_of_cell (a := ⟨w6.heap.size, 0, none⟩) Ks.out.1
      replace hzm : gm < w36.heap.size := lt_of_cell (a := ⟨gm, 0, none⟩) Km.out.1
      replace hzt : w21.heap.size < w36.heap.size := lt_of_cell (a := ⟨w21.heap.size, 0, none⟩) Kt.out.1
      replace hzp : w25.heap.size < w36.heap.size := lt_of_cell (a := ⟨w25.heap.size, 0, none⟩) Kp.out.1
      replace hzu : w26.heap.size < w36.heap.size := lt_of_cell (a := ⟨w26.heap.size, 0, none⟩) Ku.out.1
      replace hzv : w27.heap.size < w36.heap.size := lt_of_cell (a := ⟨w27.heap.size, 0, none⟩) Kv.out.1
      replace hzd : w28.heap.size < w36.heap.size := lt_of_cell (a := ⟨w28.heap.size, 0, none⟩) Kd.out.1
      replace hzq : w29.heap.size < w36.heap.size := lt_of_cell (a := ⟨w29.heap.size, 0, none⟩) Kq.out.1
      replace hzf : w29.heap.size + 1 < w36.heap.size := lt_of_cell (a := ⟨w29.heap.size + 1, 0, none⟩) Kf.out.1
      replace hzc : w32.heap.size < w36.heap.size := lt_of_cell (a := ⟨w32.heap.size, 0, none⟩) Kc.out.1
      replace hzo : w33.heap.size < w36.heap.size := lt_of_cell (a := ⟨w33.heap.size, 0, none⟩) Ko.out.1
      replace hzg : w34.heap.size < w36.heap.size := lt_of_cell (a := ⟨w34.heap.size, 0, none⟩) Kg.out.1
      obtain ⟨qc0, qc1⟩ := Kc.out
      obtain ⟨qa0, qa1⟩ := Ka.out
      obtain ⟨qb0, qb1⟩ := Kb.out
      rcases H20.out with ⟨hz1, hz2, hz3⟩ | ⟨hz1, hz2, ⟨ni, li⟩, ⟨nj, lj⟩, ⟨nv, lv⟩, ⟨ny, ly⟩, hz3, hz4, hz5, hz6⟩
      · go_wp2
        go_ret
        exact ⟨rfl, B.out⟩
      · have hlc : ((lc.length : Int) == 0) = false := beq_eq_false_iff_ne.2 (by (try dsimp only at hz1); omega)
        have Z2 := Lib.hid hz2
        have Z3 := Lib.hid hz3
        have Z4 := Lib.hid hz4
        have Z5 := Lib.hid hz5
        have Z6 := Lib.hid hz6
        clear hz1 hz2 hz3 hz4 hz5 hz6
        dsimp only at Z2 Z3 Z4 Z5 Z6
        go_wp2_with fail
        refine (rdivmod_any _ _ _ _ _ _ _ _ _ Sa.out Sc.out).mono ?_
        rw [Z3.out]
        rintro e w37 ⟨A37, c37, B37, d37, rfl, hs37, ht37, hb⟩
        clear qc0 qc1 qa0 qa1 qb0 qb1
        replace Ka : Hid (Cw w37 w.heap.size na Aa la.length ca) := Cw.keep Ka.out hb
        replace Kb : Hid (Cw w37 (w.heap.size + 1) nb Ab lb.length cb) := Cw.keep Kb.out hb
        replace Ke : Hid (Cw w37 w3.heap.size ne A3 le.length c3) := Cw.keep Ke.out hb
        replace Kr : Hid (Cw w37 w4.heap.size nr A4 lr.length c4) := Cw.keep Kr.out hb
        replace Ks : Hid (Cw w37 w6.heap.size ns A6 ls.length c6) := Cw.keep Ks.out hb
        replace Km : Hid (Cw w37 gm nm Am lm.length cm) := Cw.keep Km.out hb
        replace Kt : Hid (Cw w37 w21.heap.size nt A21 lt.length c21) := Cw.keep Kt.out hb
        replace Kp : Hid (Cw w37 w25.heap.size np A25 lp.length c25) := Cw.keep Kp.out hb
        replace Ku : Hid (Cw w37 w26.heap.size nu A26 lu.length c26) := Cw.keep Ku.out hb
        replace Kv : Hid (Cw w37 w27.heap.size nu A27 lu.length c27) := Cw.keep Kv.out hb
        replace Kd : Hid (Cw w37 w28.heap.size nd A28 ld.length c28) := Cw.keep Kd.out hb
        replace Kq : Hid (Cw w37 w29.heap.size nd A29 ld.length c29) := Cw.keep Kq.out hb
        replace Kf : Hid (Cw w37 (w29.heap.size + 1) nf B29 lf.length d29) := Cw.keep Kf.out hb
        replace Kc : Hid (Cw w37 w32.heap.size nc A32 lc.length c32) := Cw.keep Kc.out hb
        replace Ko : Hid (Cw w37 w33.heap.size no A33 lo.length c33) := Cw.keep Ko.out hb
        replace Kg : Hid (Cw w37 w34.heap.size nc A34 lc.length c34) := Cw.keep Kg.out hb
        replace Sa : Hid (Sl w37 Aa la ca) := Sl.below Sa.out hb
        replace Sb : Hid (Sl w37 Ab lb cb) := Sl.below Sb.out hb
        replace Se : Hid (Sl w37 A3 le c3) := Sl.below Se.out hb
        replace Sr : Hid (Sl w37 A4 lr c4) := Sl.below Sr.out hb
        replace Ss : Hid (Sl w37 A6 ls c6) := Sl.below Ss.out hb
        replace Sm : Hid (Sl w37 Am lm cm) := Sl.below Sm.out hb
        replace St : Hid (Sl w37 A21 lt c21) := Sl.below St.out hb
        replace Sp : Hid (Sl w37 A25 lp c25) := Sl.below Sp.out hb
        replace Su : Hid (Sl w37 A26 lu c26) := Sl.below Su.out hb
        replace Sv : Hid (Sl w37 A27 lu c27) := Sl.below Sv.out hb
        replace Sd : Hid (Sl w37 A28 ld c28) := Sl.below Sd.out hb
        replace Sq : Hid (Sl w37 A29 ld c29) := Sl.below Sq.out hb
        replace Sf : Hid (Sl w37 B29 lf d29) := Sl.below Sf.out hb
        replace Sc : Hid (Sl w37 A32 lc c32) := Sl.below Sc.out hb
        replace So : Hid (Sl w37 A33 lo c33) := Sl.below So.out hb
        replace Sg : Hid (Sl w37 A34 lc c34) := Sl.below Sg.out hb
        replace B : Hid (Below w.heap.size w w37) := below_mono B.out hb
        clear hb
        have Si : Hid (Sl w37 A37 li c37) := hs37
        have Sj : Hid (Sl w37 B37 lj d37) := ht37
        clear hs37 ht37
        (try dsimp only)
        replace hza : w.heap.size < w37.heap.size := lt_of_cell (a := ⟨w.heap.size, 0, none⟩) Ka.out.1
        replace hzb : w.heap.size + 1 < w37.heap.size := lt_of_cell (a := ⟨w.heap.size + 1, 0, none⟩) Kb.out.1
        replace hze : w3.heap.size < w37.heap.size := lt_of_cell (a := ⟨w3.heap.size, 0, none⟩) Ke.out.1
        replace hzr : w4.heap.size < w37.heap.size := lt_of_cell (a := ⟨w4.heap.size, 0, none⟩) Kr.out.1
        replace hzs : w6.heap.size < w37.heap.size := lt_of_cell (a := ⟨w6.heap.size, 0, none⟩) Ks.out.1
        replace hzm : gm < w37.heap.size := lt_of_cell (a := ⟨gm, 0, none⟩) Km.out.1
        replace hzt : w21.heap.size < w37.heap.size := lt_of_cell (a := ⟨w21.heap.size, 0, none⟩) Kt.out.1
        replace hzp : w25.heap.size < w37.heap.size := lt_of_cell (a := ⟨w25.heap.size, 0, none⟩) Kp.out.1
        replace hzu : w26.heap.size < w37.heap.size := lt_of_cell (a := ⟨w26.heap.size, 0, none⟩) Ku.out.1
        replace hzv : w27.heap.size < w37.heap.size := lt_of_cell (a := ⟨w27.heap.size, 0, none⟩) Kv.out.1
        replace hzd : w28.heap.size < w37.heap.size := lt_of_cell (a := ⟨w28.heap.size, 0, none⟩) Kd.out.1
        replace hzq : w29.heap.size < w37.heap.size := lt_of_cell (a := ⟨w29.heap.size, 0, none⟩) Kq.out.1
        replace hzf : w29.heap.size + 1 < w37.heap.size := lt_of_cell (a := ⟨w29.heap.size + 1, 0, none⟩) Kf.out.1
        replace hzc : w32.heap.size < w37.heap.size := lt_of_cell (a := ⟨w32.heap.size, 0, none⟩) Kc.out.1
        replace hzo : w33.heap.size < w37.heap.size := lt_of_cell (a := ⟨w33.heap.size, 0, none⟩) Ko.out.1
        replace hzg : w34.heap.size < w37.heap.size := lt_of_cell (a := ⟨w34.heap.size, 0, none⟩) Kg.out.1
        obtain ⟨qb0, qb1⟩ := Kb.out
        obtain ⟨qc0, qc1⟩ := Kc.out
        go_wp2_with fail
        refine (rdivmod_any _ _ _ _ _ _ _ _ _ ((Sb.out.alloc _).alloc _) ((Sc.out.alloc _).alloc _)).mono ?_
        rw [Z5.out]
        rintro e w38 ⟨A38, c38, B38, d38, rfl, hs38, ht38, hb⟩
        clear qb0 qb1 qc0 qc1
        replace Ka : Hid (Cw w38 w.heap.size na Aa la.length ca) := Cw.keep (Cw.keep (Cw.keep Ka.out (blw1 _ _)) (blw1 _ _)) hb
        replace Kb : Hid (Cw w38 (w.heap.size + 1) nb Ab lb.length cb) := Cw.keep (Cw.keep (Cw.keep Kb.out (blw1 _ _)) (blw1 _ _)) hb
        replace Ke : Hid (Cw w38 w3.heap.size ne A3 le.length c3) := Cw.keep (Cw.keep (Cw.keep Ke.out (blw1 _ _)) (blw1 _ _)) hb
        replace Kr : Hid (Cw w38 w4.heap.size nr A4 lr.length c4) := Cw.keep (Cw.keep (Cw.keep Kr.out (blw1 _ _)) (blw1 _ _)) hb
        replace Ks : Hid (Cw w38 w6.heap.size ns A6 ls.length c6) := Cw.keep (Cw.keep (Cw.keep Ks.out (blw1 _ _)) (blw1 _ _)) hb
        replace Km : Hid (Cw w38 gm nm Am lm.length cm) := Cw.keep (Cw.keep (Cw.keep Km.out (blw1 _ _)) (blw1 _ _)) hb
        replace Kt : Hid (Cw w38 w21.heap.size nt A21 lt.length c21) := Cw.keep (Cw.keep (Cw.keep Kt.out (blw1 _ _)) (blw1 _ _)) hb
        replace Kp : Hid (Cw w38 w25.heap.size np A25 lp.length c25) := Cw.keep (Cw.keep (Cw.keep Kp.out (blw1 _ _)) (blw1 _ _)) hb
        replace Ku : Hid (Cw w38 w26.heap.size nu A26 lu.length c26) := Cw.keep (Cw.keep (Cw.keep Ku.out (blw1 _ _)) (blw1 _ _)) hb
        replace Kv : Hid (Cw w38 w27.heap.size nu A27 lu.length c27) := Cw.keep (Cw.keep (Cw.keep Kv.out (blw1 _ _)) (blw1 _ _)) hb
        replace Kd : Hid (Cw w38 w28.heap.size nd A28 ld.length c28) := Cw.keep (Cw.keep (Cw.keep Kd.out (blw1 _ _)) (blw1 _ _)) hb
        replace Kq : Hid (Cw w38 w29.heap.size nd A29 ld.length c29) := Cw.keep (Cw.keep (Cw.keep Kq.out (blw1 _ _)) (blw1 _ _)) hb
        replace Kf : Hid (Cw w38 (w29.heap.size + 1) nf B29 lf.length d29) := Cw.keep (Cw.keep (Cw.keep Kf.out (blw1 _ _)) (blw1 _ _)) hb
        replace Kc : Hid (Cw w38 w32.heap.size nc A32 lc.length c32) := Cw.keep (Cw.keep (Cw.keep Kc.out (blw1 _ _)) (blw1 _ _)) hb
        replace Ko : Hid (Cw w38 w33.heap.size no A33 lo.length c33) := Cw.keep (Cw.keep (Cw.keep Ko.out (blw1 _ _)) (blw1 _ _)) hb
        replace Kg : Hid (Cw w38 w34.heap.size nc A34 lc.length c34) := Cw.keep (Cw.keep (Cw.keep Kg.out (blw1 _ _)) (blw1 _ _)) hb
        have Ki : Hid (Cw w38 w37.heap.size ni A37 li.length c37) := Cw.keep (Cw.keep (Cw.fresh (by simp) _ _ _ _ _) (blw1 _ _)) hb
        have Kj : Hid (Cw w38 (w37.heap.size + 1) nj B37 lj.length d37) := Cw.keep (Cw.fresh (by simp) _ _ _ _ _) hb
        replace Sa : Hid (Sl w38 Aa la ca) := Sl.below ((Sa.out.alloc _).alloc _) hb
        replace Sb : Hid (Sl w38 Ab lb cb) := Sl.below ((Sb.out.alloc _).alloc _) hb
        replace Se : Hid (Sl w38 A3 le c3) := Sl.below ((Se.out.alloc _).alloc _) hb
        replace Sr : Hid (Sl w38 A4 lr c4) := Sl.below ((Sr.out.alloc _).alloc _) hb
        replace Ss : Hid (Sl w38 A6 ls c6) := Sl.below ((Ss.out.alloc _).alloc _) hb
        replace Sm : Hid (Sl w38 Am lm cm) := Sl.below ((Sm.out.alloc _).alloc _) hb
        replace St : Hid (Sl w38 A21 lt c21) := Sl.below ((St.out.alloc _).alloc _) hb
        replace Sp : Hid (Sl w38 A25 lp c25) := Sl.below ((Sp.out.alloc _).alloc _) hb
        replace Su : Hid (Sl w38 A26 lu c26) := Sl.below ((Su.out.alloc _).alloc _) hb
        replace Sv : Hid (Sl w38 A27 lu c27) := Sl.below ((Sv.out.alloc _).alloc _) hb
        replace Sd : Hid (Sl w38 A28 ld c28) := Sl.below ((Sd.out.alloc _).alloc _) hb
        replace Sq : Hid (Sl w38 A29 ld c29) := Sl.below ((Sq.out.alloc _).alloc _) hb
        replace Sf : Hid (Sl w38 B29 lf d29) := Sl.below ((Sf.out.alloc _).alloc _) hb
        replace Sc : Hid (Sl w38 A32 lc c32) := Sl.below ((Sc.out.alloc _).alloc _) hb
        replace So : Hid (Sl w38 A33 lo c33) := Sl.below ((So.out.alloc _).alloc _) hb
        replace Sg : Hid (Sl w38 A34 lc c34) := Sl.below ((Sg.out.alloc _).alloc _) hb
        replace Si : Hid (Sl w38 A37 li c37) := Sl.below ((Si.out.alloc _).alloc _) hb
        replace Sj : Hid (Sl w38 B37 lj d37) := Sl.below ((Sj.out.alloc _).alloc _) hb
        replace B : Hid (Below w.heap.size w w38) := below_mono (below_mono (below_mono B.out (blw1 _ _)) (blw1 _ _)) hb
        clear hb
        have Sv9 : Hid (Sl w38 A38 lv c38) := hs38
        have Sy : Hid (Sl w38 B38 ly d38) := ht38
        clear hs38 ht38
        (try dsimp only)
        replace hza : w.heap.size < w38.heap.size := lt_of_cell (a := ⟨w.heap.size, 0, none⟩) Ka.out.1
        replace hzb : w.heap.size + 1 < w38.heap.size := lt_of_cell (a := ⟨w.heap.size + 1, 0, none⟩) Kb.out.1
        replace hze : w3.heap.size < w38.heap.size := lt_of_cell (a := ⟨w3.heap.size, 0, none⟩) Ke.out.1
        replace hzr : w4.heap.size < w38.heap.size := lt_of_cell (a := ⟨w4.heap.size, 0, none⟩) Kr.out.1
        replace hzs : w6.heap.size < w38.heap.size := lt_of_cell (a := ⟨w6.heap.size, 0, none⟩) Ks.out.1
        replace hzm : gm < w38.heap.size := lt_of_cell (a := ⟨gm, 0, none⟩) Km.out.1
        replace hzt : w21.heap.size < w38.heap.size := lt_of_cell (a := ⟨w21.heap.size, 0, none⟩) Kt.out.1
        replace hzp : w25.heap.size < w38.heap.size := lt_of_cell (a := ⟨w25.heap.size, 0, none⟩) Kp.out.1
        replace hzu : w26.heap.size < w38.heap.size := lt_of_cell (a := ⟨w26.heap.size, 0, none⟩) Ku.out.1
        replace hzv : w27.heap.size < w38.heap.size := lt_of_cell (a := ⟨w27.heap.size, 0, none⟩) Kv.out.1
        replace hzd : w28.heap.size < w38.heap.size := lt_of_cell (a := ⟨w28.heap.size, 0, none⟩) Kd.out.1
        replace hzq : w29.heap.size < w38.heap.size := lt_of_cell (a := ⟨w29.heap.size, 0, none⟩) Kq.out.1
        replace hzf : w29.heap.size + 1 < w38.heap.size := lt_of_cell (a := ⟨w29.heap.size + 1, 0, none⟩) Kf.out.1
        replace hzc : w32.heap.size < w38.heap.size := lt_of_cell (a := ⟨w32.heap.size, 0, none⟩) Kc.out.1
        replace hzo : w33.heap.size < w38.heap.size := lt_of_cell (a := ⟨w33.heap.size, 0, none⟩) Ko.out.1
        replace hzg : w34.heap.size < w38.heap.size := lt_of_cell (a := ⟨w34.heap.size, 0, none⟩) Kg.out.1
        have hzi : w37.heap.size < w38.heap.size := lt_of_cell (a := ⟨w37.heap.size, 0, none⟩) Ki.out.1
        have hzj : w37.heap.size + 1 < w38.heap.size := lt_of_cell (a := ⟨w37.heap.size + 1, 0, none⟩) Kj.out.1
        obtain ⟨qc0, qc1⟩ := Kc.out
        obtain ⟨qj0, qj1⟩ := Kj.out
        have z2 := Z2.out
        have z4 := Z4.out
        have z6 := Z6.out
        go_wp2
        go_ret
        exact ⟨rfl, below_mono B.out (blw2 _ _ _)⟩

end Go.Proofs.YtejapkdhbpngbaaDoor

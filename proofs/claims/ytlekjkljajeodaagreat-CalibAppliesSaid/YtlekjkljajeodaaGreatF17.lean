/- Walk: the reference's Round. -/
import Derived.Test.YtlekjkljajeodaaGreatF16
namespace Go.Proofs.YtlekjkljajeodaaGreat
open Go.RowKit
attribute [local go_sem ↓] Go.wp_at_zero Go.wp_at_succ
set_option maxRecDepth 100000 in
set_option maxHeartbeats 2000000 in
theorem rroundF_any (n1 n2 : Bool) (A1 A2 : Option Addr) (l1 l2 : List Nat) (c1 c2 : Nat) (w : World) (hs1 : Sl w A1 l1 c1) (hs2 : Sl w A2 l2 c2) :
    Calls Tryz.prog 110 #[.agg #[.bool n1, .slice A1 l1.length c1, .bool n2, .slice A2 l2.length c2]] w (WRes (froundS n1 l1 n2 l2) w) := by
  have S1 := Lib.hid hs1
  have S2 := Lib.hid hs2
  have B : Hid (Below w.heap.size w w) := Below.refl _ _
  cases hb : badF n1 l1 n2 l2 with
  | true =>
    have hr : froundS n1 l1 n2 l2 = ((false, []), 8) := by unfold froundS; rw [hb]; rfl
    have e1 : Hid (chkF n1 l1 n2 l2 = 8) := by unfold chkF; rw [hb]; rfl
    rw [hr]
    clear hs1 hs2 hr hb
    go_enter Tryz.func110, Tryz.ntmps110
    go_wp2_with fail
    refine (rfcheck_any n1 n2 A1 A2 l1 l2 c1 c2 _ ((S1.out.alloc _).alloc _) ((S2.out.alloc _).alloc _)).mono ?_
    rw [e1.out]
    rintro e w1 ⟨rfl, hb⟩
    have Ka' : Hid (Cf w1 w.heap.size n1 A1 l1.length c1 n2 A2 l2.length c2) := Cf.keep (Cf.keep (Cf.fresh (by simp) _ _ _ _ _ _ _ _ _) (blw1 _ _)) hb
    have Fo' : Hid (Fw w1 (w.heap.size + 1)) := Fw.keep (Fw.fresh (by simp) _ _) (Cw.fresh (by simp) _ _ _ _ _) hb
    have Ko' : Hid (Cw w1 (w.heap.size + 1) false none 0 0) := Cw.keep (Cw.fresh (by simp) _ _ _ _ _) hb
    have S1' : Hid (Sl w1 A1 l1 c1) := Sl.below ((S1.out.alloc _).alloc _) hb
    have S2' : Hid (Sl w1 A2 l2 c2) := Sl.below ((S2.out.alloc _).alloc _) hb
    have B' : Hid (Below w.heap.size w w1) := below_mono (below_mono (below_mono B.out (blw1 _ _)) (blw1 _ _)) hb
    clear hb S1 S2 B
    have Ka := Ka'
    have Fo := Fo'
    have Ko := Ko'
    have S1 := S1'
    have S2 := S2'
    have B := B'
    clear Ka' Fo' Ko' S1' S2' B'
    obtain ⟨qa0, qa1, qa2, qa3⟩ := Ka.out
    obtain ⟨qo0, qo1⟩ := Ko.out
    obtain ⟨fo0, fo1⟩ := Fo.out
    have hza : w.heap.size < w1.heap.size := lt_of_cell (a := ⟨w.heap.size, 0, none⟩) Ka.out.1
    have hzo : w.heap.size + 1 < w1.heap.size := lt_of_cell (a := ⟨w.heap.size + 1, 0, none⟩) Ko.out.1
    go_wp2_with fail
    refine (rfcheck_any n1 n2 A1 A2 l1 l2 c1 c2 _ S1.out S2.out).mono ?_
    rw [e1.out]
    rintro e w2 ⟨rfl, hb⟩
    clear qa0 qa1 qa2 qa3 qo0 qo1 fo0 fo1
    have Ka' : Hid (Cf w2 w.heap.size n1 A1 l1.length c1 n2 A2 l2.length c2) := Cf.keep Ka.out hb
    have Fo' : Hid (Fw w2 (w.heap.size + 1)) := Fw.keep Fo.out Ko.out hb
    have Ko' : Hid (Cw w2 (w.heap.size + 1) false none 0 0) := Cw.keep Ko.out hb
    have S1' : Hid (Sl w2 A1 l1 c1) := Sl.below S1.out hb
    have S2' : Hid (Sl w2 A2 l2 c2) := Sl.below S2.out hb
    have B' : Hid (Below w.heap.size w w2) := below_mono B.out hb
    clear hb Ka Fo Ko S1 S2 B
    have Ka := Ka'
    have Fo := Fo'
    have Ko := Ko'
    have S1 := S1'
    have S2 := S2'
    have B := B'
    clear Ka' Fo' Ko' S1' S2' B'
    obtain ⟨qa0, qa1, qa2, qa3⟩ := Ka.out
    obtain ⟨qo0, qo1⟩ := Ko.out
    obtain ⟨fo0, fo1⟩ := Fo.out
    replace hza : w.heap.size < w2.heap.size := lt_of_cell (a := ⟨w.heap.size, 0, none⟩) Ka.out.1
    replace hzo : w.heap.size + 1 < w2.heap.size := lt_of_cell (a := ⟨w.heap.size + 1, 0, none⟩) Ko.out.1
    go_wp2
    exact bodyPost_ret (v := .tuple #[.agg #[.bool false, .slice none 0 0], .int .i64 8]) (by simp [results, Tryz.results110, go_sem, qo0, qo1]) rfl (wres_store (r := ((false, []), 8)) (Sl.nil _ none 0) ⟨qo0, qo1⟩ B.out (by omega) _ _)
  | false =>
    have e1 : Hid (chkF n1 l1 n2 l2 = 0) := by unfold chkF; rw [hb]; rfl
    have va := vf_of hs1.lim hs2.lim hb
    have hr : froundS n1 l1 n2 l2 = (wOf (roundZ (zv n1 l1) (zv n2 l2)), 0) := by unfold froundS; rw [hb]; rfl
    rw [hr]
    obtain ⟨hx, hy, hp, _⟩ := va
    have fr := round_fit hp hx.2
    unfold roundZ at fr ⊢
    generalize zv n1 l1 = x at *
    generalize zv n2 l2 = y at *
    obtain ⟨d1, d2, d3'⟩ := dm_parts (x := x) hp
    obtain ⟨nq, lq, hq⟩ : ∃ n l, wOf (x.fdiv y) = (n, l) := ⟨_, _, rfl⟩
    obtain ⟨nr, lr, hm⟩ : ∃ n l, wOf (x.fmod y) = (n, l) := ⟨_, _, rfl⟩
    obtain ⟨ns, ls, hs⟩ : ∃ n l, wOf (y - x.fmod y) = (n, l) := ⟨_, _, rfl⟩
    obtain ⟨no, lo, ho⟩ : ∃ no lo, wOf 1 = (no, lo) := ⟨_, _, rfl⟩
    have fs : fitZ (y - x.fmod y) := fit_mono (b := y) (by omega) hy.2
    have vq := vz_mk hq.symm (fit_fdiv (y := y) hx.2)
    have vr := vz_mk hm.symm (fit_fmod (x := x) (by omega) hy.2)
    have vs := vz_mk hs.symm fs
    have vo := vz_mk ho.symm fit_one
    have hO : Hid (∀ W, Calls Tryz.prog 79 #[.int .i64 1] W (WRes1 (no, lo) W)) := fun W => by rw [← ho]; exact rfrom_any 1 W (by omega) (by omega)
    have e3 : Hid (dmS n1 l1 n2 l2 = ((nq, lq), (nr, lr), 0)) := by rw [Hid, dmS_z hx hy (by omega), hq, hm]
    have e4 : Hid (subS n2 l2 nr lr = ((ns, ls), 0)) := by rw [← hs]; exact subS_z hy vr fs
    have hc : cmpW nr lr ns ls = cmpZ (x.fmod y) (y - x.fmod y) := cmpW_z vr vs
    have hv := vq.val_eq
    have hpar : lq[0]?.getD 0 % 2 = (x.fdiv y).natAbs % 2 := by
      rw [← hv]
      cases lq with
      | nil => simp [val]
      | cons z t => simp only [List.getElem?_cons_zero, Option.getD_some, val]; omega
    have cz : cmpZ (x.fmod y) (y - x.fmod y) = cmpZ (x.fmod y + x.fmod y) y := by unfold cmpZ; (repeat' split) <;> first | rfl | omega
    by_cases h1 : y < x.fmod y + x.fmod y
    · rw [if_pos (.inl h1)] at fr ⊢
      have e5 : Hid (cmpW nr lr ns ls = 1) := by rw [Hid, hc, cz]; unfold cmpZ; rw [if_neg (by omega), if_pos h1]
      obtain ⟨nu, lu, hu⟩ : ∃ n l, wOf (x.fdiv y + 1) = (n, l) := ⟨_, _, rfl⟩
      have e6 : Hid (addS nq lq no lo = ((nu, lu), 0)) := by rw [← hu]; exact addS_z vq vo fr
      rw [hu]
      by_cases hl : 0 < lq.length
      · clear hs1 hs2 hb hx hy hp fs fr hq hm hs ho vr vs vo hc cz d1 d2 d3' vq hv hr h1  hu
        go_enter Tryz.func110, Tryz.ntmps110
        go_wp2_with fail
        refine (rfcheck_any n1 n2 A1 A2 l1 l2 c1 c2 _ ((S1.out.alloc _).alloc _) ((S2.out.alloc _).alloc _)).mono ?_
        rw [e1.out]
        rintro e w1 ⟨rfl, hb⟩
        have Ka' : Hid (Cf w1 w.heap.size n1 A1 l1.length c1 n2 A2 l2.length c2) := Cf.keep (Cf.keep (Cf.fresh (by simp) _ _ _ _ _ _ _ _ _) (blw1 _ _)) hb
        have Fo' : Hid (Fw w1 (w.heap.size + 1)) := Fw.keep (Fw.fresh (by simp) _ _) (Cw.fresh (by simp) _ _ _ _ _) hb
        have Ko' : Hid (Cw w1 (w.heap.size + 1) false none 0 0) := Cw.keep (Cw.fresh (by simp) _ _ _ _ _) hb
        have S1' : Hid (Sl w1 A1 l1 c1) := Sl.below ((S1.out.alloc _).alloc _) hb
        have S2' : Hid (Sl w1 A2 l2 c2) := Sl.below ((S2.out.alloc _).alloc _) hb
        have B' : Hid (Below w.heap.size w w1) := below_mono (below_mono (below_mono B.out (blw1 _ _)) (blw1 _ _)) hb
        clear hb S1 S2 B
        have Ka := Ka'
        have Fo := Fo'
        have Ko := Ko'
        have S1 := S1'
        have S2 := S2'
        have B := B'
        clear Ka' Fo' Ko' S1' S2' B'
        obtain ⟨qa0, qa1, qa2, qa3⟩ := Ka.out
        obtain ⟨qo0, qo1⟩ := Ko.out
        obtain ⟨fo0, fo1⟩ := Fo.out
        have hza : w.heap.size < w1.heap.size := lt_of_cell (a := ⟨w.heap.size, 0, none⟩) Ka.out.1
        have hzo : w.heap.size + 1 < w1.heap.size := lt_of_cell (a := ⟨w.heap.size + 1, 0, none⟩) Ko.out.1
        go_wp2_with fail
        refine (rdivmod_any _ _ _ _ _ _ _ _ _ S1.out S2.out).mono ?_
        rw [e3.out]
        rintro e w2 ⟨A3, c3, B3, d3, rfl, hsq, hsr, hb⟩
        clear qa0 qa1 qa2 qa3 qo0 qo1 fo0 fo1
        have Ka' : Hid (Cf w2 w.heap.size n1 A1 l1.length c1 n2 A2 l2.length c2) := Cf.keep Ka.out hb
        have Fo' : Hid (Fw w2 (w.heap.size + 1)) := Fw.keep Fo.out Ko.out hb
        have Ko' : Hid (Cw w2 (w.heap.size + 1) false none 0 0) := Cw.keep Ko.out hb
        have S1' : Hid (Sl w2 A1 l1 c1) := Sl.below S1.out hb
        have S2' : Hid (Sl w2 A2 l2 c2) := Sl.below S2.out hb
        have B' : Hid (Below w.heap.size w w2) := below_mono B.out hb
        clear hb Ka Fo Ko S1 S2 B
        have Ka := Ka'
        have Fo := Fo'
        have Ko := Ko'
        have S1 := S1'
        have S2 := S2'
        have B := B'
        clear Ka' Fo' Ko' S1' S2' B'
        (try dsimp only at hsq hsr)
        (try dsimp only)
        have Sq : Hid (Sl w2 A3 lq c3) := hsq
        clear hsq
        have Sr : Hid (Sl w2 B3 lr d3) := hsr
        clear hsr
        obtain ⟨qa0, qa1, qa2, qa3⟩ := Ka.out
        replace hza : w.heap.size < w2.heap.size := lt_of_cell (a := ⟨w.heap.size, 0, none⟩) Ka.out.1
        replace hzo : w.heap.size + 1 < w2.heap.size := lt_of_cell (a := ⟨w.heap.size + 1, 0, none⟩) Ko.out.1
        have hkaq := hza
        have hkoq := hzo
        have hkar := hza
        have hkor := hzo
        go_wp2_with fail
        refine (rsub_any n2 nr _ _ l2 lr _ _ _ ((S2.out.alloc _).alloc _) ((Sr.out.alloc _).alloc _)).mono ?_
        rw [e4.out]
        rintro e w3 ⟨A4, c4, rfl, hss, hb⟩
        clear qa0 qa1 qa2 qa3
        have Ka' : Hid (Cf w3 w.heap.size n1 A1 l1.length c1 n2 A2 l2.length c2) := Cf.keep (Cf.keep (Cf.keep Ka.out (blw1 _ _)) (blw1 _ _)) hb
        have Fo' : Hid (Fw w3 (w.heap.size + 1)) := Fw.keep (Fw.keep (Fw.keep Fo.out Ko.out (blw1 _ _)) (Cw.keep Ko.out (blw1 _ _)) (blw1 _ _)) (Cw.keep (Cw.keep Ko.out (blw1 _ _)) (blw1 _ _)) hb
        have Ko' : Hid (Cw w3 (w.heap.size + 1) false none 0 0) := Cw.keep (Cw.keep (Cw.keep Ko.out (blw1 _ _)) (blw1 _ _)) hb
        have Fq' : Hid (Fw w3 w2.heap.size) := Fw.keep (Fw.keep (Fw.fresh (by simp) _ _) (Cw.fresh (by simp) _ _ _ _ _) (blw1 _ _)) (Cw.keep (Cw.fresh (by simp) _ _ _ _ _) (blw1 _ _)) hb
        have Kq' : Hid (Cw w3 w2.heap.size nq A3 lq.length c3) := Cw.keep (Cw.keep (Cw.fresh (by simp) _ _ _ _ _) (blw1 _ _)) hb
        have Kr' : Hid (Cw w3 (w2.heap.size + 1) nr B3 lr.length d3) := Cw.keep (Cw.fresh (by simp) _ _ _ _ _) hb
        have S1' : Hid (Sl w3 A1 l1 c1) := Sl.below ((S1.out.alloc _).alloc _) hb
        have S2' : Hid (Sl w3 A2 l2 c2) := Sl.below ((S2.out.alloc _).alloc _) hb
        have Sq' : Hid (Sl w3 A3 lq c3) := Sl.below ((Sq.out.alloc _).alloc _) hb
        have Sr' : Hid (Sl w3 B3 lr d3) := Sl.below ((Sr.out.alloc _).alloc _) hb
        have B' : Hid (Below w.heap.size w w3) := below_mono (below_mono (below_mono B.out (blw1 _ _)) (blw1 _ _)) hb
        clear hb Ka Fo Ko S1 S2 Sq Sr B
        have Ka := Ka'
        have Fo := Fo'
        have Ko := Ko'
        have Fq := Fq'
        have Kq := Kq'
        have Kr := Kr'
        have S1 := S1'
        have S2 := S2'
        have Sq := Sq'
        have Sr := Sr'
        have B := B'
        clear Ka' Fo' Ko' Fq' Kq' Kr' S1' S2' Sq' Sr' B'
        (try dsimp only at hss)
        (try dsimp only)
        have Ss : Hid (Sl w3 A4 ls c4) := hss
        clear hss
        obtain ⟨qr0, qr1⟩ := Kr.out
        replace hza : w.heap.size < w3.heap.size := lt_of_cell (a := ⟨w.heap.size, 0, none⟩) Ka.out.1
        replace hzo : w.heap.size + 1 < w3.heap.size := lt_of_cell (a := ⟨w.heap.size + 1, 0, none⟩) Ko.out.1
        have hzq : w2.heap.size < w3.heap.size := lt_of_cell (a := ⟨w2.heap.size, 0, none⟩) Kq.out.1
        have hzr : w2.heap.size + 1 < w3.heap.size := lt_of_cell (a := ⟨w2.heap.size + 1, 0, none⟩) Kr.out.1
        have hkas := hza
        have hkos := hzo
        have hkqs := hzq
        have hkrs := hzr
        go_wp2_with fail
        refine (rcompared_any nr ns _ _ lr ls _ _ _ (Sr.out.alloc _) (Ss.out.alloc _)).mono ?_
        rw [e5.out]
        rintro e w4 ⟨rfl, hb⟩
        clear qr0 qr1
        have Ka' : Hid (Cf w4 w.heap.size n1 A1 l1.length c1 n2 A2 l2.length c2) := Cf.keep (Cf.keep Ka.out (blw1 _ _)) hb
        have Fo' : Hid (Fw w4 (w.heap.size + 1)) := Fw.keep (Fw.keep Fo.out Ko.out (blw1 _ _)) (Cw.keep Ko.out (blw1 _ _)) hb
        have Ko' : Hid (Cw w4 (w.heap.size + 1) false none 0 0) := Cw.keep (Cw.keep Ko.out (blw1 _ _)) hb
        have Fq' : Hid (Fw w4 w2.heap.size) := Fw.keep (Fw.keep Fq.out Kq.out (blw1 _ _)) (Cw.keep Kq.out (blw1 _ _)) hb
        have Kq' : Hid (Cw w4 w2.heap.size nq A3 lq.length c3) := Cw.keep (Cw.keep Kq.out (blw1 _ _)) hb
        have Kr' : Hid (Cw w4 (w2.heap.size + 1) nr B3 lr.length d3) := Cw.keep (Cw.keep Kr.out (blw1 _ _)) hb
        have Ks' : Hid (Cw w4 w3.heap.size ns A4 ls.length c4) := Cw.keep (Cw.fresh (by simp) _ _ _ _ _) hb
        have S1' : Hid (Sl w4 A1 l1 c1) := Sl.below (S1.out.alloc _) hb
        have S2' : Hid (Sl w4 A2 l2 c2) := Sl.below (S2.out.alloc _) hb
        have Sq' : Hid (Sl w4 A3 lq c3) := Sl.below (Sq.out.alloc _) hb
        have Sr' : Hid (Sl w4 B3 lr d3) := Sl.below (Sr.out.alloc _) hb
        have Ss' : Hid (Sl w4 A4 ls c4) := Sl.below (Ss.out.alloc _) hb
        have B' : Hid (Below w.heap.size w w4) := below_mono (below_mono B.out (blw1 _ _)) hb
        clear hb Ka Fo Ko Fq Kq Kr S1 S2 Sq Sr Ss B
        have Ka := Ka'
        have Fo := Fo'
        have Ko := Ko'
        have Fq := Fq'
        have Kq := Kq'
        have Kr := Kr'
        have Ks := Ks'
        have S1 := S1'
        have S2 := S2'
        have Sq := Sq'
        have Sr := Sr'
        have Ss := Ss'
        have B := B'
        clear Ka' Fo' Ko' Fq' Kq' Kr' Ks' S1' S2' Sq' Sr' Ss' B'
        obtain ⟨qq0, qq1⟩ := Kq.out
        obtain ⟨fq0, fq1⟩ := Fq.out
        obtain ⟨qo0, qo1⟩ := Ko.out
        obtain ⟨fo0, fo1⟩ := Fo.out
        replace hza : w.heap.size < w4.heap.size := lt_of_cell (a := ⟨w.heap.size, 0, none⟩) Ka.out.1
        replace hzo : w.heap.size + 1 < w4.heap.size := lt_of_cell (a := ⟨w.heap.size + 1, 0, none⟩) Ko.out.1
        replace hzq : w2.heap.size < w4.heap.size := lt_of_cell (a := ⟨w2.heap.size, 0, none⟩) Kq.out.1
        replace hzr : w2.heap.size + 1 < w4.heap.size := lt_of_cell (a := ⟨w2.heap.size + 1, 0, none⟩) Kr.out.1
        have hzs : w3.heap.size < w4.heap.size := lt_of_cell (a := ⟨w3.heap.size, 0, none⟩) Ks.out.1
        have hk1 : lq[0]?.getD 0 < 4294967296 := getD_lim Sq.out.lim 0
        obtain ⟨bq, oq, rfl, hcell⟩ := Sq.out.rd.at_ (k := 0) hl
        rw [Nat.add_zero] at hcell
        generalize hk0 : lq[0]?.getD 0 = k0 at *
        clear hk0 hpar
        go_wp2_with fail
        clear qq0 qq1 fq0 fq1 qo0 qo1 fo0 fo1
        have KoY : Hid (Cw w4.drew (w.heap.size + 1) false none 0 0) := Ko.out
        have KqY : Hid (Cw w4.drew w2.heap.size nq _ lq.length c3) := Kq.out
        have FoY : Hid (Fw w4.drew (w.heap.size + 1)) := Fo.out
        have FqY : Hid (Fw w4.drew w2.heap.size) := Fq.out
        have SqY : Hid (Sl w4.drew _ lq c3) := Sl.drew Sq.out
        have BY : Hid (Below w.heap.size w w4.drew) := Below.drew B.out
        obtain ⟨qq0, qq1⟩ := Kq.out
        obtain ⟨qo0, qo1⟩ := Ko.out
        obtain ⟨fo0, fo1⟩ := Fo.out
        go_region_with (first
          | (go_at_call 79; refine (hO.out _).mono ?_; rintro e x1 ⟨A6, c6, rfl, hs6, hb⟩; (try dsimp only at hs6); (try dsimp only); have S6x1 : Hid (Sl x1 A6 lo c6) := hs6; have Fox1 := Lib.hid (Fw.keep FoY.out KoY.out hb); have Kox1 := Lib.hid (KoY.out.keep hb); have Fqx1 := Lib.hid (Fw.keep FqY.out KqY.out hb); have Kqx1 := Lib.hid (KqY.out.keep hb); have Sqx1 := Lib.hid (SqY.out.below hb); have Bx1 := Lib.hid (below_mono BY.out hb); obtain ⟨q2, q3⟩ := Kqx1.out; clear hb hs6)
          | (go_at_call 127; refine (radd_any nq no _ _ lq lo _ _ _ Sqx1.out S6x1.out).mono ?_; rw [e6.out]; rintro e x2 ⟨A7, c7, rfl, hs7, hb⟩; (try dsimp only at hs7); (try dsimp only); have Szx2 : Hid (Sl x2 A7 lu c7) := hs7; have Fox2 := Lib.hid (Fw.keep Fox1.out Kox1.out hb); have Kox2 := Lib.hid (Kox1.out.keep hb); have Fqx2 := Lib.hid (Fw.keep Fqx1.out Kqx1.out hb); have Kqx2 := Lib.hid (Kqx1.out.keep hb); have Bx2 := Lib.hid (below_mono Bx1.out hb); obtain ⟨r0, r1⟩ := Kox2.out; obtain ⟨g0, g1⟩ := Fox2.out; clear hb hs7))
        all_goals
          go_wp2
          exact bodyPost_ret (v := .tuple #[.agg #[.bool nu, .slice A7 lu.length c7], .int .i64 0]) (by simp [results, Tryz.results110, go_sem, r0, r1]) rfl (wres_store (r := ((nu, lu), 0)) Szx2.out ⟨r0, r1⟩ Bx2.out (by omega) _ _)
      · clear hs1 hs2 hb hx hy hp fs fr hq hm hs ho vr vs vo hc cz d1 d2 d3' vq hv hr h1  hu hpar
        go_enter Tryz.func110, Tryz.ntmps110
        go_wp2_with fail
        refine (rfcheck_any n1 n2 A1 A2 l1 l2 c1 c2 _ ((S1.out.alloc _).alloc _) ((S2.out.alloc _).alloc _)).mono ?_
        rw [e1.out]
        rintro e w1 ⟨rfl, hb⟩
        have Ka' : Hid (Cf w1 w.heap.size n1 A1 l1.length c1 n2 A2 l2.length c2) := Cf.keep (Cf.keep (Cf.fresh (by simp) _ _ _ _ _ _ _ _ _) (blw1 _ _)) hb
        have Fo' : Hid (Fw w1 (w.heap.size + 1)) := Fw.keep (Fw.fresh (by simp) _ _) (Cw.fresh (by simp) _ _ _ _ _) hb
        have Ko' : Hid (Cw w1 (w.heap.size + 1) false none 0 0) := Cw.keep (Cw.fresh (by simp) _ _ _ _ _) hb
        have S1' : Hid (Sl w1 A1 l1 c1) := Sl.below ((S1.out.alloc _).alloc _) hb
        have S2' : Hid (Sl w1 A2 l2 c2) := Sl.below ((S2.out.alloc _).alloc _) hb
        have B' : Hid (Below w.heap.size w w1) := below_mono (below_mono (below_mono B.out (blw1 _ _)) (blw1 _ _)) hb
        clear hb S1 S2 B
        have Ka := Ka'
        have Fo := Fo'
        have Ko := Ko'
        have S1 := S1'
        have S2 := S2'
        have B := B'
        clear Ka' Fo' Ko' S1' S2' B'
        obtain ⟨qa0, qa1, qa2, qa3⟩ := Ka.out
        obtain ⟨qo0, qo1⟩ := Ko.out
        obtain ⟨fo0, fo1⟩ := Fo.out
        have hza : w.heap.size < w1.heap.size := lt_of_cell (a := ⟨w.heap.size, 0, none⟩) Ka.out.1
        have hzo : w.heap.size + 1 < w1.heap.size := lt_of_cell (a := ⟨w.heap.size + 1, 0, none⟩) Ko.out.1
        go_wp2_with fail
        refine (rdivmod_any _ _ _ _ _ _ _ _ _ S1.out S2.out).mono ?_
        rw [e3.out]
        rintro e w2 ⟨A3, c3, B3, d3, rfl, hsq, hsr, hb⟩
        clear qa0 qa1 qa2 qa3 qo0 qo1 fo0 fo1
        have Ka' : Hid (Cf w2 w.heap.size n1 A1 l1.length c1 n2 A2 l2.length c2) := Cf.keep Ka.out hb
        have Fo' : Hid (Fw w2 (w.heap.size + 1)) := Fw.keep Fo.out Ko.out hb
        have Ko' : Hid (Cw w2 (w.heap.size + 1) false none 0 0) := Cw.keep Ko.out hb
        have S1' : Hid (Sl w2 A1 l1 c1) := Sl.below S1.out hb
        have S2' : Hid (Sl w2 A2 l2 c2) := Sl.below S2.out hb
        have B' : Hid (Below w.heap.size w w2) := below_mono B.out hb
        clear hb Ka Fo Ko S1 S2 B
        have Ka := Ka'
        have Fo := Fo'
        have Ko := Ko'
        have S1 := S1'
        have S2 := S2'
        have B := B'
        clear Ka' Fo' Ko' S1' S2' B'
        (try dsimp only at hsq hsr)
        (try dsimp only)
        have Sq : Hid (Sl w2 A3 lq c3) := hsq
        clear hsq
        have Sr : Hid (Sl w2 B3 lr d3) := hsr
        clear hsr
        obtain ⟨qa0, qa1, qa2, qa3⟩ := Ka.out
        replace hza : w.heap.size < w2.heap.size := lt_of_cell (a := ⟨w.heap.size, 0, none⟩) Ka.out.1
        replace hzo : w.heap.size + 1 < w2.heap.size := lt_of_cell (a := ⟨w.heap.size + 1, 0, none⟩) Ko.out.1
        have hkaq := hza
        have hkoq := hzo
        have hkar := hza
        have hkor := hzo
        go_wp2_with fail
        refine (rsub_any n2 nr _ _ l2 lr _ _ _ ((S2.out.alloc _).alloc _) ((Sr.out.alloc _).alloc _)).mono ?_
        rw [e4.out]
        rintro e w3 ⟨A4, c4, rfl, hss, hb⟩
        clear qa0 qa1 qa2 qa3
        have Ka' : Hid (Cf w3 w.heap.size n1 A1 l1.length c1 n2 A2 l2.length c2) := Cf.keep (Cf.keep (Cf.keep Ka.out (blw1 _ _)) (blw1 _ _)) hb
        have Fo' : Hid (Fw w3 (w.heap.size + 1)) := Fw.keep (Fw.keep (Fw.keep Fo.out Ko.out (blw1 _ _)) (Cw.keep Ko.out (blw1 _ _)) (blw1 _ _)) (Cw.keep (Cw.keep Ko.out (blw1 _ _)) (blw1 _ _)) hb
        have Ko' : Hid (Cw w3 (w.heap.size + 1) false none 0 0) := Cw.keep (Cw.keep (Cw.keep Ko.out (blw1 _ _)) (blw1 _ _)) hb
        have Fq' : Hid (Fw w3 w2.heap.size) := Fw.keep (Fw.keep (Fw.fresh (by simp) _ _) (Cw.fresh (by simp) _ _ _ _ _) (blw1 _ _)) (Cw.keep (Cw.fresh (by simp) _ _ _ _ _) (blw1 _ _)) hb
        have Kq' : Hid (Cw w3 w2.heap.size nq A3 lq.length c3) := Cw.keep (Cw.keep (Cw.fresh (by simp) _ _ _ _ _) (blw1 _ _)) hb
        have Kr' : Hid (Cw w3 (w2.heap.size + 1) nr B3 lr.length d3) := Cw.keep (Cw.fresh (by simp) _ _ _ _ _) hb
        have S1' : Hid (Sl w3 A1 l1 c1) := Sl.below ((S1.out.alloc _).alloc _) hb
        have S2' : Hid (Sl w3 A2 l2 c2) := Sl.below ((S2.out.alloc _).alloc _) hb
        have Sq' : Hid (Sl w3 A3 lq c3) := Sl.below ((Sq.out.alloc _).alloc _) hb
        have Sr' : Hid (Sl w3 B3 lr d3) := Sl.below ((Sr.out.alloc _).alloc _) hb
        have B' : Hid (Below w.heap.size w w3) := below_mono (below_mono (below_mono B.out (blw1 _ _)) (blw1 _ _)) hb
        clear hb Ka Fo Ko S1 S2 Sq Sr B
        have Ka := Ka'
        have Fo := Fo'
        have Ko := Ko'
        have Fq := Fq'
        have Kq := Kq'
        have Kr := Kr'
        have S1 := S1'
        have S2 := S2'
        have Sq := Sq'
        have Sr := Sr'
        have B := B'
        clear Ka' Fo' Ko' Fq' Kq' Kr' S1' S2' Sq' Sr' B'
        (try dsimp only at hss)
        (try dsimp only)
        have Ss : Hid (Sl w3 A4 ls c4) := hss
        clear hss
        obtain ⟨qr0, qr1⟩ := Kr.out
        replace hza : w.heap.size < w3.heap.size := lt_of_cell (a := ⟨w.heap.size, 0, none⟩) Ka.out.1
        replace hzo : w.heap.size + 1 < w3.heap.size := lt_of_cell (a := ⟨w.heap.size + 1, 0, none⟩) Ko.out.1
        have hzq : w2.heap.size < w3.heap.size := lt_of_cell (a := ⟨w2.heap.size, 0, none⟩) Kq.out.1
        have hzr : w2.heap.size + 1 < w3.heap.size := lt_of_cell (a := ⟨w2.heap.size + 1, 0, none⟩) Kr.out.1
        have hkas := hza
        have hkos := hzo
        have hkqs := hzq
        have hkrs := hzr
        go_wp2_with fail
        refine (rcompared_any nr ns _ _ lr ls _ _ _ (Sr.out.alloc _) (Ss.out.alloc _)).mono ?_
        rw [e5.out]
        rintro e w4 ⟨rfl, hb⟩
        clear qr0 qr1
        have Ka' : Hid (Cf w4 w.heap.size n1 A1 l1.length c1 n2 A2 l2.length c2) := Cf.keep (Cf.keep Ka.out (blw1 _ _)) hb
        have Fo' : Hid (Fw w4 (w.heap.size + 1)) := Fw.keep (Fw.keep Fo.out Ko.out (blw1 _ _)) (Cw.keep Ko.out (blw1 _ _)) hb
        have Ko' : Hid (Cw w4 (w.heap.size + 1) false none 0 0) := Cw.keep (Cw.keep Ko.out (blw1 _ _)) hb
        have Fq' : Hid (Fw w4 w2.heap.size) := Fw.keep (Fw.keep Fq.out Kq.out (blw1 _ _)) (Cw.keep Kq.out (blw1 _ _)) hb
        have Kq' : Hid (Cw w4 w2.heap.size nq A3 lq.length c3) := Cw.keep (Cw.keep Kq.out (blw1 _ _)) hb
        have Kr' : Hid (Cw w4 (w2.heap.size + 1) nr B3 lr.length d3) := Cw.keep (Cw.keep Kr.out (blw1 _ _)) hb
        have Ks' : Hid (Cw w4 w3.heap.size ns A4 ls.length c4) := Cw.keep (Cw.fresh (by simp) _ _ _ _ _) hb
        have S1' : Hid (Sl w4 A1 l1 c1) := Sl.below (S1.out.alloc _) hb
        have S2' : Hid (Sl w4 A2 l2 c2) := Sl.below (S2.out.alloc _) hb
        have Sq' : Hid (Sl w4 A3 lq c3) := Sl.below (Sq.out.alloc _) hb
        have Sr' : Hid (Sl w4 B3 lr d3) := Sl.below (Sr.out.alloc _) hb
        have Ss' : Hid (Sl w4 A4 ls c4) := Sl.below (Ss.out.alloc _) hb
        have B' : Hid (Below w.heap.size w w4) := below_mono (below_mono B.out (blw1 _ _)) hb
        clear hb Ka Fo Ko Fq Kq Kr S1 S2 Sq Sr Ss B
        have Ka := Ka'
        have Fo := Fo'
        have Ko := Ko'
        have Fq := Fq'
        have Kq := Kq'
        have Kr := Kr'
        have Ks := Ks'
        have S1 := S1'
        have S2 := S2'
        have Sq := Sq'
        have Sr := Sr'
        have Ss := Ss'
        have B := B'
        clear Ka' Fo' Ko' Fq' Kq' Kr' Ks' S1' S2' Sq' Sr' Ss' B'
        obtain ⟨qq0, qq1⟩ := Kq.out
        obtain ⟨fq0, fq1⟩ := Fq.out
        obtain ⟨qo0, qo1⟩ := Ko.out
        obtain ⟨fo0, fo1⟩ := Fo.out
        replace hza : w.heap.size < w4.heap.size := lt_of_cell (a := ⟨w.heap.size, 0, none⟩) Ka.out.1
        replace hzo : w.heap.size + 1 < w4.heap.size := lt_of_cell (a := ⟨w.heap.size + 1, 0, none⟩) Ko.out.1
        replace hzq : w2.heap.size < w4.heap.size := lt_of_cell (a := ⟨w2.heap.size, 0, none⟩) Kq.out.1
        replace hzr : w2.heap.size + 1 < w4.heap.size := lt_of_cell (a := ⟨w2.heap.size + 1, 0, none⟩) Kr.out.1
        have hzs : w3.heap.size < w4.heap.size := lt_of_cell (a := ⟨w3.heap.size, 0, none⟩) Ks.out.1
        go_wp2_with fail
        clear qq0 qq1 fq0 fq1 qo0 qo1 fo0 fo1
        have KoY : Hid (Cw w4.drew (w.heap.size + 1) false none 0 0) := Ko.out
        have KqY : Hid (Cw w4.drew w2.heap.size nq _ lq.length c3) := Kq.out
        have FoY : Hid (Fw w4.drew (w.heap.size + 1)) := Fo.out
        have FqY : Hid (Fw w4.drew w2.heap.size) := Fq.out
        have SqY : Hid (Sl w4.drew _ lq c3) := Sl.drew Sq.out
        have BY : Hid (Below w.heap.size w w4.drew) := Below.drew B.out
        obtain ⟨qq0, qq1⟩ := Kq.out
        obtain ⟨qo0, qo1⟩ := Ko.out
        obtain ⟨fo0, fo1⟩ := Fo.out
        go_region_with (first
          | (go_at_call 79; refine (hO.out _).mono ?_; rintro e x1 ⟨A6, c6, rfl, hs6, hb⟩; (try dsimp only at hs6); (try dsimp only); have S6x1 : Hid (Sl x1 A6 lo c6) := hs6; have Fox1 := Lib.hid (Fw.keep FoY.out KoY.out hb); have Kox1 := Lib.hid (KoY.out.keep hb); have Fqx1 := Lib.hid (Fw.keep FqY.out KqY.out hb); have Kqx1 := Lib.hid (KqY.out.keep hb); have Sqx1 := Lib.hid (SqY.out.below hb); have Bx1 := Lib.hid (below_mono BY.out hb); obtain ⟨q2, q3⟩ := Kqx1.out; clear hb hs6)
          | (go_at_call 127; refine (radd_any nq no _ _ lq lo _ _ _ Sqx1.out S6x1.out).mono ?_; rw [e6.out]; rintro e x2 ⟨A7, c7, rfl, hs7, hb⟩; (try dsimp only at hs7); (try dsimp only); have Szx2 : Hid (Sl x2 A7 lu c7) := hs7; have Fox2 := Lib.hid (Fw.keep Fox1.out Kox1.out hb); have Kox2 := Lib.hid (Kox1.out.keep hb); have Fqx2 := Lib.hid (Fw.keep Fqx1.out Kqx1.out hb); have Kqx2 := Lib.hid (Kqx1.out.keep hb); have Bx2 := Lib.hid (below_mono Bx1.out hb); obtain ⟨r0, r1⟩ := Kox2.out; obtain ⟨g0, g1⟩ := Fox2.out; clear hb hs7))
        all_goals
          go_wp2
          exact bodyPost_ret (v := .tuple #[.agg #[.bool nu, .slice A7 lu.length c7], .int .i64 0]) (by simp [results, Tryz.results110, go_sem, r0, r1]) rfl (wres_store (r := ((nu, lu), 0)) Szx2.out ⟨r0, r1⟩ Bx2.out (by omega) _ _)
    · by_cases h2 : x.fmod y + x.fmod y = y
      · have e5 : Hid (cmpW nr lr ns ls = 0) := by rw [Hid, hc, cz]; unfold cmpZ; rw [if_neg (by omega), if_neg (by omega)]
        by_cases hpar0 : (x.fdiv y).natAbs % 2 = 1
        · rw [if_pos (.inr ⟨h2, hpar0⟩)] at fr ⊢
          obtain ⟨nu, lu, hu⟩ : ∃ n l, wOf (x.fdiv y + 1) = (n, l) := ⟨_, _, rfl⟩
          have e6 : Hid (addS nq lq no lo = ((nu, lu), 0)) := by rw [← hu]; exact addS_z vq vo fr
          rw [hu]
          by_cases hl : 0 < lq.length
          · clear hs1 hs2 hb hx hy hp fs fr hq hm hs ho vr vs vo hc cz d1 d2 d3' vq hv hr h1 h2 hu
            go_enter Tryz.func110, Tryz.ntmps110
            go_wp2_with fail
            refine (rfcheck_any n1 n2 A1 A2 l1 l2 c1 c2 _ ((S1.out.alloc _).alloc _) ((S2.out.alloc _).alloc _)).mono ?_
            rw [e1.out]
            rintro e w1 ⟨rfl, hb⟩
            have Ka' : Hid (Cf w1 w.heap.size n1 A1 l1.length c1 n2 A2 l2.length c2) := Cf.keep (Cf.keep (Cf.fresh (by simp) _ _ _ _ _ _ _ _ _) (blw1 _ _)) hb
            have Fo' : Hid (Fw w1 (w.heap.size + 1)) := Fw.keep (Fw.fresh (by simp) _ _) (Cw.fresh (by simp) _ _ _ _ _) hb
            have Ko' : Hid (Cw w1 (w.heap.size + 1) false none 0 0) := Cw.keep (Cw.fresh (by simp) _ _ _ _ _) hb
            have S1' : Hid (Sl w1 A1 l1 c1) := Sl.below ((S1.out.alloc _).alloc _) hb
            have S2' : Hid (Sl w1 A2 l2 c2) := Sl.below ((S2.out.alloc _).alloc _) hb
            have B' : Hid (Below w.heap.size w w1) := below_mono (below_mono (below_mono B.out (blw1 _ _)) (blw1 _ _)) hb
            clear hb S1 S2 B
            have Ka := Ka'
            have Fo := Fo'
            have Ko := Ko'
            have S1 := S1'
            have S2 := S2'
            have B := B'
            clear Ka' Fo' Ko' S1' S2' B'
            obtain ⟨qa0, qa1, qa2, qa3⟩ := Ka.out
            obtain ⟨qo0, qo1⟩ := Ko.out
            obtain ⟨fo0, fo1⟩ := Fo.out
            have hza : w.heap.size < w1.heap.size := lt_of_cell (a := ⟨w.heap.size, 0, none⟩) Ka.out.1
            have hzo : w.heap.size + 1 < w1.heap.size := lt_of_cell (a := ⟨w.heap.size + 1, 0, none⟩) Ko.out.1
            go_wp2_with fail
            refine (rdivmod_any _ _ _ _ _ _ _ _ _ S1.out S2.out).mono ?_
            rw [e3.out]
            rintro e w2 ⟨A3, c3, B3, d3, rfl, hsq, hsr, hb⟩
            clear qa0 qa1 qa2 qa3 qo0 qo1 fo0 fo1
            have Ka' : Hid (Cf w2 w.heap.size n1 A1 l1.length c1 n2 A2 l2.length c2) := Cf.keep Ka.out hb
            have Fo' : Hid (Fw w2 (w.heap.size + 1)) := Fw.keep Fo.out Ko.out hb
            have Ko' : Hid (Cw w2 (w.heap.size + 1) false none 0 0) := Cw.keep Ko.out hb
            have S1' : Hid (Sl w2 A1 l1 c1) := Sl.below S1.out hb
            have S2' : Hid (Sl w2 A2 l2 c2) := Sl.below S2.out hb
            have B' : Hid (Below w.heap.size w w2) := below_mono B.out hb
            clear hb Ka Fo Ko S1 S2 B
            have Ka := Ka'
            have Fo := Fo'
            have Ko := Ko'
            have S1 := S1'
            have S2 := S2'
            have B := B'
            clear Ka' Fo' Ko' S1' S2' B'
            (try dsimp only at hsq hsr)
            (try dsimp only)
            have Sq : Hid (Sl w2 A3 lq c3) := hsq
            clear hsq
            have Sr : Hid (Sl w2 B3 lr d3) := hsr
            clear hsr
            obtain ⟨qa0, qa1, qa2, qa3⟩ := Ka.out
            replace hza : w.heap.size < w2.heap.size := lt_of_cell (a := ⟨w.heap.size, 0, none⟩) Ka.out.1
            replace hzo : w.heap.size + 1 < w2.heap.size := lt_of_cell (a := ⟨w.heap.size + 1, 0, none⟩) Ko.out.1
            have hkaq := hza
            have hkoq := hzo
            have hkar := hza
            have hkor := hzo
            go_wp2_with fail
            refine (rsub_any n2 nr _ _ l2 lr _ _ _ ((S2.out.alloc _).alloc _) ((Sr.out.alloc _).alloc _)).mono ?_
            rw [e4.out]
            rintro e w3 ⟨A4, c4, rfl, hss, hb⟩
            clear qa0 qa1 qa2 qa3
            have Ka' : Hid (Cf w3 w.heap.size n1 A1 l1.length c1 n2 A2 l2.length c2) := Cf.keep (Cf.keep (Cf.keep Ka.out (blw1 _ _)) (blw1 _ _)) hb
            have Fo' : Hid (Fw w3 (w.heap.size + 1)) := Fw.keep (Fw.keep (Fw.keep Fo.out Ko.out (blw1 _ _)) (Cw.keep Ko.out (blw1 _ _)) (blw1 _ _)) (Cw.keep (Cw.keep Ko.out (blw1 _ _)) (blw1 _ _)) hb
            have Ko' : Hid (Cw w3 (w.heap.size + 1) false none 0 0) := Cw.keep (Cw.keep (Cw.keep Ko.out (blw1 _ _)) (blw1 _ _)) hb
            have Fq' : Hid (Fw w3 w2.heap.size) := Fw.keep (Fw.keep (Fw.fresh (by simp) _ _) (Cw.fresh (by simp) _ _ _ _ _) (blw1 _ _)) (Cw.keep (Cw.fresh (by simp) _ _ _ _ _) (blw1 _ _)) hb
            have Kq' : Hid (Cw w3 w2.heap.size nq A3 lq.length c3) := Cw.keep (Cw.keep (Cw.fresh (by simp) _ _ _ _ _) (blw1 _ _)) hb
            have Kr' : Hid (Cw w3 (w2.heap.size + 1) nr B3 lr.length d3) := Cw.keep (Cw.fresh (by simp) _ _ _ _ _) hb
            have S1' : Hid (Sl w3 A1 l1 c1) := Sl.below ((S1.out.alloc _).alloc _) hb
            have S2' : Hid (Sl w3 A2 l2 c2) := Sl.below ((S2.out.alloc _).alloc _) hb
            have Sq' : Hid (Sl w3 A3 lq c3) := Sl.below ((Sq.out.alloc _).alloc _) hb
            have Sr' : Hid (Sl w3 B3 lr d3) := Sl.below ((Sr.out.alloc _).alloc _) hb
            have B' : Hid (Below w.heap.size w w3) := below_mono (below_mono (below_mono B.out (blw1 _ _)) (blw1 _ _)) hb
            clear hb Ka Fo Ko S1 S2 Sq Sr B
            have Ka := Ka'
            have Fo := Fo'
            have Ko := Ko'
            have Fq := Fq'
            have Kq := Kq'
            have Kr := Kr'
            have S1 := S1'
            have S2 := S2'
            have Sq := Sq'
            have Sr := Sr'
            have B := B'
            clear Ka' Fo' Ko' Fq' Kq' Kr' S1' S2' Sq' Sr' B'
            (try dsimp only at hss)
            (try dsimp only)
            have Ss : Hid (Sl w3 A4 ls c4) := hss
            clear hss
            obtain ⟨qr0, qr1⟩ := Kr.out
            replace hza : w.heap.size < w3.heap.size := lt_of_cell (a := ⟨w.heap.size, 0, none⟩) Ka.out.1
            replace hzo : w.heap.size + 1 < w3.heap.size := lt_of_cell (a := ⟨w.heap.size + 1, 0, none⟩) Ko.out.1
            have hzq : w2.heap.size < w3.heap.size := lt_of_cell (a := ⟨w2.heap.size, 0, none⟩) Kq.out.1
            have hzr : w2.heap.size + 1 < w3.heap.size := lt_of_cell (a := ⟨w2.heap.size + 1, 0, none⟩) Kr.out.1
            have hkas := hza
            have hkos := hzo
            have hkqs := hzq
            have hkrs := hzr
            go_wp2_with fail
            refine (rcompared_any nr ns _ _ lr ls _ _ _ (Sr.out.alloc _) (Ss.out.alloc _)).mono ?_
            rw [e5.out]
            rintro e w4 ⟨rfl, hb⟩
            clear qr0 qr1
            have Ka' : Hid (Cf w4 w.heap.size n1 A1 l1.length c1 n2 A2 l2.length c2) := Cf.keep (Cf.keep Ka.out (blw1 _ _)) hb
            have Fo' : Hid (Fw w4 (w.heap.size + 1)) := Fw.keep (Fw.keep Fo.out Ko.out (blw1 _ _)) (Cw.keep Ko.out (blw1 _ _)) hb
            have Ko' : Hid (Cw w4 (w.heap.size + 1) false none 0 0) := Cw.keep (Cw.keep Ko.out (blw1 _ _)) hb
            have Fq' : Hid (Fw w4 w2.heap.size) := Fw.keep (Fw.keep Fq.out Kq.out (blw1 _ _)) (Cw.keep Kq.out (blw1 _ _)) hb
            have Kq' : Hid (Cw w4 w2.heap.size nq A3 lq.length c3) := Cw.keep (Cw.keep Kq.out (blw1 _ _)) hb
            have Kr' : Hid (Cw w4 (w2.heap.size + 1) nr B3 lr.length d3) := Cw.keep (Cw.keep Kr.out (blw1 _ _)) hb
            have Ks' : Hid (Cw w4 w3.heap.size ns A4 ls.length c4) := Cw.keep (Cw.fresh (by simp) _ _ _ _ _) hb
            have S1' : Hid (Sl w4 A1 l1 c1) := Sl.below (S1.out.alloc _) hb
            have S2' : Hid (Sl w4 A2 l2 c2) := Sl.below (S2.out.alloc _) hb
            have Sq' : Hid (Sl w4 A3 lq c3) := Sl.below (Sq.out.alloc _) hb
            have Sr' : Hid (Sl w4 B3 lr d3) := Sl.below (Sr.out.alloc _) hb
            have Ss' : Hid (Sl w4 A4 ls c4) := Sl.below (Ss.out.alloc _) hb
            have B' : Hid (Below w.heap.size w w4) := below_mono (below_mono B.out (blw1 _ _)) hb
            clear hb Ka Fo Ko Fq Kq Kr S1 S2 Sq Sr Ss B
            have Ka := Ka'
            have Fo := Fo'
            have Ko := Ko'
            have Fq := Fq'
            have Kq := Kq'
            have Kr := Kr'
            have Ks := Ks'
            have S1 := S1'
            have S2 := S2'
            have Sq := Sq'
            have Sr := Sr'
            have Ss := Ss'
            have B := B'
            clear Ka' Fo' Ko' Fq' Kq' Kr' Ks' S1' S2' Sq' Sr' Ss' B'
            obtain ⟨qq0, qq1⟩ := Kq.out
            obtain ⟨fq0, fq1⟩ := Fq.out
            obtain ⟨qo0, qo1⟩ := Ko.out
            obtain ⟨fo0, fo1⟩ := Fo.out
            replace hza : w.heap.size < w4.heap.size := lt_of_cell (a := ⟨w.heap.size, 0, none⟩) Ka.out.1
            replace hzo : w.heap.size + 1 < w4.heap.size := lt_of_cell (a := ⟨w.heap.size + 1, 0, none⟩) Ko.out.1
            replace hzq : w2.heap.size < w4.heap.size := lt_of_cell (a := ⟨w2.heap.size, 0, none⟩) Kq.out.1
            replace hzr : w2.heap.size + 1 < w4.heap.size := lt_of_cell (a := ⟨w2.heap.size + 1, 0, none⟩) Kr.out.1
            have hzs : w3.heap.size < w4.heap.size := lt_of_cell (a := ⟨w3.heap.size, 0, none⟩) Ks.out.1
            have hk1 : lq[0]?.getD 0 < 4294967296 := getD_lim Sq.out.lim 0
            obtain ⟨bq, oq, rfl, hcell⟩ := Sq.out.rd.at_ (k := 0) hl
            rw [Nat.add_zero] at hcell
            generalize hk0 : lq[0]?.getD 0 = k0 at *
            rw [hpar0] at hpar
            have hbit : ((k0 : Int) % 2 == 1) = true := by rw [beq_iff_eq]; omega
            clear hk0 hpar hpar0
            go_wp2_with fail
            clear qq0 qq1 fq0 fq1 qo0 qo1 fo0 fo1
            have KoY : Hid (Cw w4.drew (w.heap.size + 1) false none 0 0) := Ko.out
            have KqY : Hid (Cw w4.drew w2.heap.size nq _ lq.length c3) := Kq.out
            have FoY : Hid (Fw w4.drew (w.heap.size + 1)) := Fo.out
            have FqY : Hid (Fw w4.drew w2.heap.size) := Fq.out
            have SqY : Hid (Sl w4.drew _ lq c3) := Sl.drew Sq.out
            have BY : Hid (Below w.heap.size w w4.drew) := Below.drew B.out
            obtain ⟨qq0, qq1⟩ := Kq.out
            obtain ⟨qo0, qo1⟩ := Ko.out
            obtain ⟨fo0, fo1⟩ := Fo.out
            go_region_with (first
              | (go_at_call 79; refine (hO.out _).mono ?_; rintro e x1 ⟨A6, c6, rfl, hs6, hb⟩; (try dsimp only at hs6); (try dsimp only); have S6x1 : Hid (Sl x1 A6 lo c6) := hs6; have Fox1 := Lib.hid (Fw.keep FoY.out KoY.out hb); have Kox1 := Lib.hid (KoY.out.keep hb); have Fqx1 := Lib.hid (Fw.keep FqY.out KqY.out hb); have Kqx1 := Lib.hid (KqY.out.keep hb); have Sqx1 := Lib.hid (SqY.out.below hb); have Bx1 := Lib.hid (below_mono BY.out hb); obtain ⟨q2, q3⟩ := Kqx1.out; clear hb hs6)
              | (go_at_call 127; refine (radd_any nq no _ _ lq lo _ _ _ Sqx1.out S6x1.out).mono ?_; rw [e6.out]; rintro e x2 ⟨A7, c7, rfl, hs7, hb⟩; (try dsimp only at hs7); (try dsimp only); have Szx2 : Hid (Sl x2 A7 lu c7) := hs7; have Fox2 := Lib.hid (Fw.keep Fox1.out Kox1.out hb); have Kox2 := Lib.hid (Kox1.out.keep hb); have Fqx2 := Lib.hid (Fw.keep Fqx1.out Kqx1.out hb); have Kqx2 := Lib.hid (Kqx1.out.keep hb); have Bx2 := Lib.hid (below_mono Bx1.out hb); obtain ⟨r0, r1⟩ := Kox2.out; obtain ⟨g0, g1⟩ := Fox2.out; clear hb hs7))
            all_goals
              go_wp2
              exact bodyPost_ret (v := .tuple #[.agg #[.bool nu, .slice A7 lu.length c7], .int .i64 0]) (by simp [results, Tryz.results110, go_sem, r0, r1]) rfl (wres_store (r := ((nu, lu), 0)) Szx2.out ⟨r0, r1⟩ Bx2.out (by omega) _ _)
          · exact absurd (vq.pos.2 (by intro e; rw [e] at hpar0; simp at hpar0)) hl
        · rw [if_neg (by omega), hq]
          replace hpar0 : (x.fdiv y).natAbs % 2 = 0 := by omega
          by_cases hl : 0 < lq.length
          · clear hs1 hs2 hb hx hy hp fs fr hq hm hs ho vr vs vo hc cz d1 d2 d3' vq hv hr h1 h2
            go_enter Tryz.func110, Tryz.ntmps110
            go_wp2_with fail
            refine (rfcheck_any n1 n2 A1 A2 l1 l2 c1 c2 _ ((S1.out.alloc _).alloc _) ((S2.out.alloc _).alloc _)).mono ?_
            rw [e1.out]
            rintro e w1 ⟨rfl, hb⟩
            have Ka' : Hid (Cf w1 w.heap.size n1 A1 l1.length c1 n2 A2 l2.length c2) := Cf.keep (Cf.keep (Cf.fresh (by simp) _ _ _ _ _ _ _ _ _) (blw1 _ _)) hb
            have Fo' : Hid (Fw w1 (w.heap.size + 1)) := Fw.keep (Fw.fresh (by simp) _ _) (Cw.fresh (by simp) _ _ _ _ _) hb
            have Ko' : Hid (Cw w1 (w.heap.size + 1) false none 0 0) := Cw.keep (Cw.fresh (by simp) _ _ _ _ _) hb
            have S1' : Hid (Sl w1 A1 l1 c1) := Sl.below ((S1.out.alloc _).alloc _) hb
            have S2' : Hid (Sl w1 A2 l2 c2) := Sl.below ((S2.out.alloc _).alloc _) hb
            have B' : Hid (Below w.heap.size w w1) := below_mono (below_mono (below_mono B.out (blw1 _ _)) (blw1 _ _)) hb
            clear hb S1 S2 B
            have Ka := Ka'
            have Fo := Fo'
            have Ko := Ko'
            have S1 := S1'
            have S2 := S2'
            have B := B'
            clear Ka' Fo' Ko' S1' S2' B'
            obtain ⟨qa0, qa1, qa2, qa3⟩ := Ka.out
            obtain ⟨qo0, qo1⟩ := Ko.out
            obtain ⟨fo0, fo1⟩ := Fo.out
            have hza : w.heap.size < w1.heap.size := lt_of_cell (a := ⟨w.heap.size, 0, none⟩) Ka.out.1
            have hzo : w.heap.size + 1 < w1.heap.size := lt_of_cell (a := ⟨w.heap.size + 1, 0, none⟩) Ko.out.1
            go_wp2_with fail
            refine (rdivmod_any _ _ _ _ _ _ _ _ _ S1.out S2.out).mono ?_
            rw [e3.out]
            rintro e w2 ⟨A3, c3, B3, d3, rfl, hsq, hsr, hb⟩
            clear qa0 qa1 qa2 qa3 qo0 qo1 fo0 fo1
            have Ka' : Hid (Cf w2 w.heap.size n1 A1 l1.length c1 n2 A2 l2.length c2) := Cf.keep Ka.out hb
            have Fo' : Hid (Fw w2 (w.heap.size + 1)) := Fw.keep Fo.out Ko.out hb
            have Ko' : Hid (Cw w2 (w.heap.size + 1) false none 0 0) := Cw.keep Ko.out hb
            have S1' : Hid (Sl w2 A1 l1 c1) := Sl.below S1.out hb
            have S2' : Hid (Sl w2 A2 l2 c2) := Sl.below S2.out hb
            have B' : Hid (Below w.heap.size w w2) := below_mono B.out hb
            clear hb Ka Fo Ko S1 S2 B
            have Ka := Ka'
            have Fo := Fo'
            have Ko := Ko'
            have S1 := S1'
            have S2 := S2'
            have B := B'
            clear Ka' Fo' Ko' S1' S2' B'
            (try dsimp only at hsq hsr)
            (try dsimp only)
            have Sq : Hid (Sl w2 A3 lq c3) := hsq
            clear hsq
            have Sr : Hid (Sl w2 B3 lr d3) := hsr
            clear hsr
            obtain ⟨qa0, qa1, qa2, qa3⟩ := Ka.out
            replace hza : w.heap.size < w2.heap.size := lt_of_cell (a := ⟨w.heap.size, 0, none⟩) Ka.out.1
            replace hzo : w.heap.size + 1 < w2.heap.size := lt_of_cell (a := ⟨w.heap.size + 1, 0, none⟩) Ko.out.1
            have hkaq := hza
            have hkoq := hzo
            have hkar := hza
            have hkor := hzo
            go_wp2_with fail
            refine (rsub_any n2 nr _ _ l2 lr _ _ _ ((S2.out.alloc _).alloc _) ((Sr.out.alloc _).alloc _)).mono ?_
            rw [e4.out]
            rintro e w3 ⟨A4, c4, rfl, hss, hb⟩
            clear qa0 qa1 qa2 qa3
            have Ka' : Hid (Cf w3 w.heap.size n1 A1 l1.length c1 n2 A2 l2.length c2) := Cf.keep (Cf.keep (Cf.keep Ka.out (blw1 _ _)) (blw1 _ _)) hb
            have Fo' : Hid (Fw w3 (w.heap.size + 1)) := Fw.keep (Fw.keep (Fw.keep Fo.out Ko.out (blw1 _ _)) (Cw.keep Ko.out (blw1 _ _)) (blw1 _ _)) (Cw.keep (Cw.keep Ko.out (blw1 _ _)) (blw1 _ _)) hb
            have Ko' : Hid (Cw w3 (w.heap.size + 1) false none 0 0) := Cw.keep (Cw.keep (Cw.keep Ko.out (blw1 _ _)) (blw1 _ _)) hb
            have Fq' : Hid (Fw w3 w2.heap.size) := Fw.keep (Fw.keep (Fw.fresh (by simp) _ _) (Cw.fresh (by simp) _ _ _ _ _) (blw1 _ _)) (Cw.keep (Cw.fresh (by simp) _ _ _ _ _) (blw1 _ _)) hb
            have Kq' : Hid (Cw w3 w2.heap.size nq A3 lq.length c3) := Cw.keep (Cw.keep (Cw.fresh (by simp) _ _ _ _ _) (blw1 _ _)) hb
            have Kr' : Hid (Cw w3 (w2.heap.size + 1) nr B3 lr.length d3) := Cw.keep (Cw.fresh (by simp) _ _ _ _ _) hb
            have S1' : Hid (Sl w3 A1 l1 c1) := Sl.below ((S1.out.alloc _).alloc _) hb
            have S2' : Hid (Sl w3 A2 l2 c2) := Sl.below ((S2.out.alloc _).alloc _) hb
            have Sq' : Hid (Sl w3 A3 lq c3) := Sl.below ((Sq.out.alloc _).alloc _) hb
            have Sr' : Hid (Sl w3 B3 lr d3) := Sl.below ((Sr.out.alloc _).alloc _) hb
            have B' : Hid (Below w.heap.size w w3) := below_mono (below_mono (below_mono B.out (blw1 _ _)) (blw1 _ _)) hb
            clear hb Ka Fo Ko S1 S2 Sq Sr B
            have Ka := Ka'
            have Fo := Fo'
            have Ko := Ko'
            have Fq := Fq'
            have Kq := Kq'
            have Kr := Kr'
            have S1 := S1'
            have S2 := S2'
            have Sq := Sq'
            have Sr := Sr'
            have B := B'
            clear Ka' Fo' Ko' Fq' Kq' Kr' S1' S2' Sq' Sr' B'
            (try dsimp only at hss)
            (try dsimp only)
            have Ss : Hid (Sl w3 A4 ls c4) := hss
            clear hss
            obtain ⟨qr0, qr1⟩ := Kr.out
            replace hza : w.heap.size < w3.heap.size := lt_of_cell (a := ⟨w.heap.size, 0, none⟩) Ka.out.1
            replace hzo : w.heap.size + 1 < w3.heap.size := lt_of_cell (a := ⟨w.heap.size + 1, 0, none⟩) Ko.out.1
            have hzq : w2.heap.size < w3.heap.size := lt_of_cell (a := ⟨w2.heap.size, 0, none⟩) Kq.out.1
            have hzr : w2.heap.size + 1 < w3.heap.size := lt_of_cell (a := ⟨w2.heap.size + 1, 0, none⟩) Kr.out.1
            have hkas := hza
            have hkos := hzo
            have hkqs := hzq
            have hkrs := hzr
            go_wp2_with fail
            refine (rcompared_any nr ns _ _ lr ls _ _ _ (Sr.out.alloc _) (Ss.out.alloc _)).mono ?_
            rw [e5.out]
            rintro e w4 ⟨rfl, hb⟩
            clear qr0 qr1
            have Ka' : Hid (Cf w4 w.heap.size n1 A1 l1.length c1 n2 A2 l2.length c2) := Cf.keep (Cf.keep Ka.out (blw1 _ _)) hb
            have Fo' : Hid (Fw w4 (w.heap.size + 1)) := Fw.keep (Fw.keep Fo.out Ko.out (blw1 _ _)) (Cw.keep Ko.out (blw1 _ _)) hb
            have Ko' : Hid (Cw w4 (w.heap.size + 1) false none 0 0) := Cw.keep (Cw.keep Ko.out (blw1 _ _)) hb
            have Fq' : Hid (Fw w4 w2.heap.size) := Fw.keep (Fw.keep Fq.out Kq.out (blw1 _ _)) (Cw.keep Kq.out (blw1 _ _)) hb
            have Kq' : Hid (Cw w4 w2.heap.size nq A3 lq.length c3) := Cw.keep (Cw.keep Kq.out (blw1 _ _)) hb
            have Kr' : Hid (Cw w4 (w2.heap.size + 1) nr B3 lr.length d3) := Cw.keep (Cw.keep Kr.out (blw1 _ _)) hb
            have Ks' : Hid (Cw w4 w3.heap.size ns A4 ls.length c4) := Cw.keep (Cw.fresh (by simp) _ _ _ _ _) hb
            have S1' : Hid (Sl w4 A1 l1 c1) := Sl.below (S1.out.alloc _) hb
            have S2' : Hid (Sl w4 A2 l2 c2) := Sl.below (S2.out.alloc _) hb
            have Sq' : Hid (Sl w4 A3 lq c3) := Sl.below (Sq.out.alloc _) hb
            have Sr' : Hid (Sl w4 B3 lr d3) := Sl.below (Sr.out.alloc _) hb
            have Ss' : Hid (Sl w4 A4 ls c4) := Sl.below (Ss.out.alloc _) hb
            have B' : Hid (Below w.heap.size w w4) := below_mono (below_mono B.out (blw1 _ _)) hb
            clear hb Ka Fo Ko Fq Kq Kr S1 S2 Sq Sr Ss B
            have Ka := Ka'
            have Fo := Fo'
            have Ko := Ko'
            have Fq := Fq'
            have Kq := Kq'
            have Kr := Kr'
            have Ks := Ks'
            have S1 := S1'
            have S2 := S2'
            have Sq := Sq'
            have Sr := Sr'
            have Ss := Ss'
            have B := B'
            clear Ka' Fo' Ko' Fq' Kq' Kr' Ks' S1' S2' Sq' Sr' Ss' B'
            obtain ⟨qq0, qq1⟩ := Kq.out
            obtain ⟨fq0, fq1⟩ := Fq.out
            obtain ⟨qo0, qo1⟩ := Ko.out
            obtain ⟨fo0, fo1⟩ := Fo.out
            replace hza : w.heap.size < w4.heap.size := lt_of_cell (a := ⟨w.heap.size, 0, none⟩) Ka.out.1
            replace hzo : w.heap.size + 1 < w4.heap.size := lt_of_cell (a := ⟨w.heap.size + 1, 0, none⟩) Ko.out.1
            replace hzq : w2.heap.size < w4.heap.size := lt_of_cell (a := ⟨w2.heap.size, 0, none⟩) Kq.out.1
            replace hzr : w2.heap.size + 1 < w4.heap.size := lt_of_cell (a := ⟨w2.heap.size + 1, 0, none⟩) Kr.out.1
            have hzs : w3.heap.size < w4.heap.size := lt_of_cell (a := ⟨w3.heap.size, 0, none⟩) Ks.out.1
            have hk1 : lq[0]?.getD 0 < 4294967296 := getD_lim Sq.out.lim 0
            obtain ⟨bq, oq, rfl, hcell⟩ := Sq.out.rd.at_ (k := 0) hl
            rw [Nat.add_zero] at hcell
            generalize hk0 : lq[0]?.getD 0 = k0 at *
            rw [hpar0] at hpar
            have hbit : ((k0 : Int) % 2 == 1) = false := by rw [beq_eq_false_iff_ne]; omega
            clear hk0 hpar hpar0
            go_wp2
            exact bodyPost_ret (v := .tuple #[.agg #[.bool nq, .slice (some ⟨bq, oq, none⟩) lq.length c3], .int .i64 0]) (by simp [results, Tryz.results110, go_sem, qo0, qo1]) rfl (wres_store (r := ((nq, lq), 0)) Sq.out ⟨qo0, qo1⟩ B.out (by omega) _ _)
          · clear hs1 hs2 hb hx hy hp fs fr hq hm hs ho vr vs vo hc cz d1 d2 d3' vq hv hr h1 h2 hpar hpar0
            go_enter Tryz.func110, Tryz.ntmps110
            go_wp2_with fail
            refine (rfcheck_any n1 n2 A1 A2 l1 l2 c1 c2 _ ((S1.out.alloc _).alloc _) ((S2.out.alloc _).alloc _)).mono ?_
            rw [e1.out]
            rintro e w1 ⟨rfl, hb⟩
            have Ka' : Hid (Cf w1 w.heap.size n1 A1 l1.length c1 n2 A2 l2.length c2) := Cf.keep (Cf.keep (Cf.fresh (by simp) _ _ _ _ _ _ _ _ _) (blw1 _ _)) hb
            have Fo' : Hid (Fw w1 (w.heap.size + 1)) := Fw.keep (Fw.fresh (by simp) _ _) (Cw.fresh (by simp) _ _ _ _ _) hb
            have Ko' : Hid (Cw w1 (w.heap.size + 1) false none 0 0) := Cw.keep (Cw.fresh (by simp) _ _ _ _ _) hb
            have S1' : Hid (Sl w1 A1 l1 c1) := Sl.below ((S1.out.alloc _).alloc _) hb
            have S2' : Hid (Sl w1 A2 l2 c2) := Sl.below ((S2.out.alloc _).alloc _) hb
            have B' : Hid (Below w.heap.size w w1) := below_mono (below_mono (below_mono B.out (blw1 _ _)) (blw1 _ _)) hb
            clear hb S1 S2 B
            have Ka := Ka'
            have Fo := Fo'
            have Ko := Ko'
            have S1 := S1'
            have S2 := S2'
            have B := B'
            clear Ka' Fo' Ko' S1' S2' B'
            obtain ⟨qa0, qa1, qa2, qa3⟩ := Ka.out
            obtain ⟨qo0, qo1⟩ := Ko.out
            obtain ⟨fo0, fo1⟩ := Fo.out
            have hza : w.heap.size < w1.heap.size := lt_of_cell (a := ⟨w.heap.size, 0, none⟩) Ka.out.1
            have hzo : w.heap.size + 1 < w1.heap.size := lt_of_cell (a := ⟨w.heap.size + 1, 0, none⟩) Ko.out.1
            go_wp2_with fail
            refine (rdivmod_any _ _ _ _ _ _ _ _ _ S1.out S2.out).mono ?_
            rw [e3.out]
            rintro e w2 ⟨A3, c3, B3, d3, rfl, hsq, hsr, hb⟩
            clear qa0 qa1 qa2 qa3 qo0 qo1 fo0 fo1
            have Ka' : Hid (Cf w2 w.heap.size n1 A1 l1.length c1 n2 A2 l2.length c2) := Cf.keep Ka.out hb
            have Fo' : Hid (Fw w2 (w.heap.size + 1)) := Fw.keep Fo.out Ko.out hb
            have Ko' : Hid (Cw w2 (w.heap.size + 1) false none 0 0) := Cw.keep Ko.out hb
            have S1' : Hid (Sl w2 A1 l1 c1) := Sl.below S1.out hb
            have S2' : Hid (Sl w2 A2 l2 c2) := Sl.below S2.out hb
            have B' : Hid (Below w.heap.size w w2) := below_mono B.out hb
            clear hb Ka Fo Ko S1 S2 B
            have Ka := Ka'
            have Fo := Fo'
            have Ko := Ko'
            have S1 := S1'
            have S2 := S2'
            have B := B'
            clear Ka' Fo' Ko' S1' S2' B'
            (try dsimp only at hsq hsr)
            (try dsimp only)
            have Sq : Hid (Sl w2 A3 lq c3) := hsq
            clear hsq
            have Sr : Hid (Sl w2 B3 lr d3) := hsr
            clear hsr
            obtain ⟨qa0, qa1, qa2, qa3⟩ := Ka.out
            replace hza : w.heap.size < w2.heap.size := lt_of_cell (a := ⟨w.heap.size, 0, none⟩) Ka.out.1
            replace hzo : w.heap.size + 1 < w2.heap.size := lt_of_cell (a := ⟨w.heap.size + 1, 0, none⟩) Ko.out.1
            have hkaq := hza
            have hkoq := hzo
            have hkar := hza
            have hkor := hzo
            go_wp2_with fail
            refine (rsub_any n2 nr _ _ l2 lr _ _ _ ((S2.out.alloc _).alloc _) ((Sr.out.alloc _).alloc _)).mono ?_
            rw [e4.out]
            rintro e w3 ⟨A4, c4, rfl, hss, hb⟩
            clear qa0 qa1 qa2 qa3
            have Ka' : Hid (Cf w3 w.heap.size n1 A1 l1.length c1 n2 A2 l2.length c2) := Cf.keep (Cf.keep (Cf.keep Ka.out (blw1 _ _)) (blw1 _ _)) hb
            have Fo' : Hid (Fw w3 (w.heap.size + 1)) := Fw.keep (Fw.keep (Fw.keep Fo.out Ko.out (blw1 _ _)) (Cw.keep Ko.out (blw1 _ _)) (blw1 _ _)) (Cw.keep (Cw.keep Ko.out (blw1 _ _)) (blw1 _ _)) hb
            have Ko' : Hid (Cw w3 (w.heap.size + 1) false none 0 0) := Cw.keep (Cw.keep (Cw.keep Ko.out (blw1 _ _)) (blw1 _ _)) hb
            have Fq' : Hid (Fw w3 w2.heap.size) := Fw.keep (Fw.keep (Fw.fresh (by simp) _ _) (Cw.fresh (by simp) _ _ _ _ _) (blw1 _ _)) (Cw.keep (Cw.fresh (by simp) _ _ _ _ _) (blw1 _ _)) hb
            have Kq' : Hid (Cw w3 w2.heap.size nq A3 lq.length c3) := Cw.keep (Cw.keep (Cw.fresh (by simp) _ _ _ _ _) (blw1 _ _)) hb
            have Kr' : Hid (Cw w3 (w2.heap.size + 1) nr B3 lr.length d3) := Cw.keep (Cw.fresh (by simp) _ _ _ _ _) hb
            have S1' : Hid (Sl w3 A1 l1 c1) := Sl.below ((S1.out.alloc _).alloc _) hb
            have S2' : Hid (Sl w3 A2 l2 c2) := Sl.below ((S2.out.alloc _).alloc _) hb
            have Sq' : Hid (Sl w3 A3 lq c3) := Sl.below ((Sq.out.alloc _).alloc _) hb
            have Sr' : Hid (Sl w3 B3 lr d3) := Sl.below ((Sr.out.alloc _).alloc _) hb
            have B' : Hid (Below w.heap.size w w3) := below_mono (below_mono (below_mono B.out (blw1 _ _)) (blw1 _ _)) hb
            clear hb Ka Fo Ko S1 S2 Sq Sr B
            have Ka := Ka'
            have Fo := Fo'
            have Ko := Ko'
            have Fq := Fq'
            have Kq := Kq'
            have Kr := Kr'
            have S1 := S1'
            have S2 := S2'
            have Sq := Sq'
            have Sr := Sr'
            have B := B'
            clear Ka' Fo' Ko' Fq' Kq' Kr' S1' S2' Sq' Sr' B'
            (try dsimp only at hss)
            (try dsimp only)
            have Ss : Hid (Sl w3 A4 ls c4) := hss
            clear hss
            obtain ⟨qr0, qr1⟩ := Kr.out
            replace hza : w.heap.size < w3.heap.size := lt_of_cell (a := ⟨w.heap.size, 0, none⟩) Ka.out.1
            replace hzo : w.heap.size + 1 < w3.heap.size := lt_of_cell (a := ⟨w.heap.size + 1, 0, none⟩) Ko.out.1
            have hzq : w2.heap.size < w3.heap.size := lt_of_cell (a := ⟨w2.heap.size, 0, none⟩) Kq.out.1
            have hzr : w2.heap.size + 1 < w3.heap.size := lt_of_cell (a := ⟨w2.heap.size + 1, 0, none⟩) Kr.out.1
            have hkas := hza
            have hkos := hzo
            have hkqs := hzq
            have hkrs := hzr
            go_wp2_with fail
            refine (rcompared_any nr ns _ _ lr ls _ _ _ (Sr.out.alloc _) (Ss.out.alloc _)).mono ?_
            rw [e5.out]
            rintro e w4 ⟨rfl, hb⟩
            clear qr0 qr1
            have Ka' : Hid (Cf w4 w.heap.size n1 A1 l1.length c1 n2 A2 l2.length c2) := Cf.keep (Cf.keep Ka.out (blw1 _ _)) hb
            have Fo' : Hid (Fw w4 (w.heap.size + 1)) := Fw.keep (Fw.keep Fo.out Ko.out (blw1 _ _)) (Cw.keep Ko.out (blw1 _ _)) hb
            have Ko' : Hid (Cw w4 (w.heap.size + 1) false none 0 0) := Cw.keep (Cw.keep Ko.out (blw1 _ _)) hb
            have Fq' : Hid (Fw w4 w2.heap.size) := Fw.keep (Fw.keep Fq.out Kq.out (blw1 _ _)) (Cw.keep Kq.out (blw1 _ _)) hb
            have Kq' : Hid (Cw w4 w2.heap.size nq A3 lq.length c3) := Cw.keep (Cw.keep Kq.out (blw1 _ _)) hb
            have Kr' : Hid (Cw w4 (w2.heap.size + 1) nr B3 lr.length d3) := Cw.keep (Cw.keep Kr.out (blw1 _ _)) hb
            have Ks' : Hid (Cw w4 w3.heap.size ns A4 ls.length c4) := Cw.keep (Cw.fresh (by simp) _ _ _ _ _) hb
            have S1' : Hid (Sl w4 A1 l1 c1) := Sl.below (S1.out.alloc _) hb
            have S2' : Hid (Sl w4 A2 l2 c2) := Sl.below (S2.out.alloc _) hb
            have Sq' : Hid (Sl w4 A3 lq c3) := Sl.below (Sq.out.alloc _) hb
            have Sr' : Hid (Sl w4 B3 lr d3) := Sl.below (Sr.out.alloc _) hb
            have Ss' : Hid (Sl w4 A4 ls c4) := Sl.below (Ss.out.alloc _) hb
            have B' : Hid (Below w.heap.size w w4) := below_mono (below_mono B.out (blw1 _ _)) hb
            clear hb Ka Fo Ko Fq Kq Kr S1 S2 Sq Sr Ss B
            have Ka := Ka'
            have Fo := Fo'
            have Ko := Ko'
            have Fq := Fq'
            have Kq := Kq'
            have Kr := Kr'
            have Ks := Ks'
            have S1 := S1'
            have S2 := S2'
            have Sq := Sq'
            have Sr := Sr'
            have Ss := Ss'
            have B := B'
            clear Ka' Fo' Ko' Fq' Kq' Kr' Ks' S1' S2' Sq' Sr' Ss' B'
            obtain ⟨qq0, qq1⟩ := Kq.out
            obtain ⟨fq0, fq1⟩ := Fq.out
            obtain ⟨qo0, qo1⟩ := Ko.out
            obtain ⟨fo0, fo1⟩ := Fo.out
            replace hza : w.heap.size < w4.heap.size := lt_of_cell (a := ⟨w.heap.size, 0, none⟩) Ka.out.1
            replace hzo : w.heap.size + 1 < w4.heap.size := lt_of_cell (a := ⟨w.heap.size + 1, 0, none⟩) Ko.out.1
            replace hzq : w2.heap.size < w4.heap.size := lt_of_cell (a := ⟨w2.heap.size, 0, none⟩) Kq.out.1
            replace hzr : w2.heap.size + 1 < w4.heap.size := lt_of_cell (a := ⟨w2.heap.size + 1, 0, none⟩) Kr.out.1
            have hzs : w3.heap.size < w4.heap.size := lt_of_cell (a := ⟨w3.heap.size, 0, none⟩) Ks.out.1
            go_wp2
            exact bodyPost_ret (v := .tuple #[.agg #[.bool nq, .slice A3 lq.length c3], .int .i64 0]) (by simp [results, Tryz.results110, go_sem, qo0, qo1]) rfl (wres_store (r := ((nq, lq), 0)) Sq.out ⟨qo0, qo1⟩ B.out (by omega) _ _)
      · rw [if_neg (by omega), hq]
        have e5 : Hid (cmpW nr lr ns ls = -1) := by rw [Hid, hc, cz]; unfold cmpZ; rw [if_pos (by omega)]
        by_cases hl : 0 < lq.length
        · clear hs1 hs2 hb hx hy hp fs fr hq hm hs ho vr vs vo hc cz d1 d2 d3' vq hv hr h1 h2
          go_enter Tryz.func110, Tryz.ntmps110
          go_wp2_with fail
          refine (rfcheck_any n1 n2 A1 A2 l1 l2 c1 c2 _ ((S1.out.alloc _).alloc _) ((S2.out.alloc _).alloc _)).mono ?_
          rw [e1.out]
          rintro e w1 ⟨rfl, hb⟩
          have Ka' : Hid (Cf w1 w.heap.size n1 A1 l1.length c1 n2 A2 l2.length c2) := Cf.keep (Cf.keep (Cf.fresh (by simp) _ _ _ _ _ _ _ _ _) (blw1 _ _)) hb
          have Fo' : Hid (Fw w1 (w.heap.size + 1)) := Fw.keep (Fw.fresh (by simp) _ _) (Cw.fresh (by simp) _ _ _ _ _) hb
          have Ko' : Hid (Cw w1 (w.heap.size + 1) false none 0 0) := Cw.keep (Cw.fresh (by simp) _ _ _ _ _) hb
          have S1' : Hid (Sl w1 A1 l1 c1) := Sl.below ((S1.out.alloc _).alloc _) hb
          have S2' : Hid (Sl w1 A2 l2 c2) := Sl.below ((S2.out.alloc _).alloc _) hb
          have B' : Hid (Below w.heap.size w w1) := below_mono (below_mono (below_mono B.out (blw1 _ _)) (blw1 _ _)) hb
          clear hb S1 S2 B
          have Ka := Ka'
          have Fo := Fo'
          have Ko := Ko'
          have S1 := S1'
          have S2 := S2'
          have B := B'
          clear Ka' Fo' Ko' S1' S2' B'
          obtain ⟨qa0, qa1, qa2, qa3⟩ := Ka.out
          obtain ⟨qo0, qo1⟩ := Ko.out
          obtain ⟨fo0, fo1⟩ := Fo.out
          have hza : w.heap.size < w1.heap.size := lt_of_cell (a := ⟨w.heap.size, 0, none⟩) Ka.out.1
          have hzo : w.heap.size + 1 < w1.heap.size := lt_of_cell (a := ⟨w.heap.size + 1, 0, none⟩) Ko.out.1
          go_wp2_with fail
          refine (rdivmod_any _ _ _ _ _ _ _ _ _ S1.out S2.out).mono ?_
          rw [e3.out]
          rintro e w2 ⟨A3, c3, B3, d3, rfl, hsq, hsr, hb⟩
          clear qa0 qa1 qa2 qa3 qo0 qo1 fo0 fo1
          have Ka' : Hid (Cf w2 w.heap.size n1 A1 l1.length c1 n2 A2 l2.length c2) := Cf.keep Ka.out hb
          have Fo' : Hid (Fw w2 (w.heap.size + 1)) := Fw.keep Fo.out Ko.out hb
          have Ko' : Hid (Cw w2 (w.heap.size + 1) false none 0 0) := Cw.keep Ko.out hb
          have S1' : Hid (Sl w2 A1 l1 c1) := Sl.below S1.out hb
          have S2' : Hid (Sl w2 A2 l2 c2) := Sl.below S2.out hb
          have B' : Hid (Below w.heap.size w w2) := below_mono B.out hb
          clear hb Ka Fo Ko S1 S2 B
          have Ka := Ka'
          have Fo := Fo'
          have Ko := Ko'
          have S1 := S1'
          have S2 := S2'
          have B := B'
          clear Ka' Fo' Ko' S1' S2' B'
          (try dsimp only at hsq hsr)
          (try dsimp only)
          have Sq : Hid (Sl w2 A3 lq c3) := hsq
          clear hsq
          have Sr : Hid (Sl w2 B3 lr d3) := hsr
          clear hsr
          obtain ⟨qa0, qa1, qa2, qa3⟩ := Ka.out
          replace hza : w.heap.size < w2.heap.size := lt_of_cell (a := ⟨w.heap.size, 0, none⟩) Ka.out.1
          replace hzo : w.heap.size + 1 < w2.heap.size := lt_of_cell (a := ⟨w.heap.size + 1, 0, none⟩) Ko.out.1
          have hkaq := hza
          have hkoq := hzo
          have hkar := hza
          have hkor := hzo
          go_wp2_with fail
          refine (rsub_any n2 nr _ _ l2 lr _ _ _ ((S2.out.alloc _).alloc _) ((Sr.out.alloc _).alloc _)).mono ?_
          rw [e4.out]
          rintro e w3 ⟨A4, c4, rfl, hss, hb⟩
          clear qa0 qa1 qa2 qa3
          have Ka' : Hid (Cf w3 w.heap.size n1 A1 l1.length c1 n2 A2 l2.length c2) := Cf.keep (Cf.keep (Cf.keep Ka.out (blw1 _ _)) (blw1 _ _)) hb
          have Fo' : Hid (Fw w3 (w.heap.size + 1)) := Fw.keep (Fw.keep (Fw.keep Fo.out Ko.out (blw1 _ _)) (Cw.keep Ko.out (blw1 _ _)) (blw1 _ _)) (Cw.keep (Cw.keep Ko.out (blw1 _ _)) (blw1 _ _)) hb
          have Ko' : Hid (Cw w3 (w.heap.size + 1) false none 0 0) := Cw.keep (Cw.keep (Cw.keep Ko.out (blw1 _ _)) (blw1 _ _)) hb
          have Fq' : Hid (Fw w3 w2.heap.size) := Fw.keep (Fw.keep (Fw.fresh (by simp) _ _) (Cw.fresh (by simp) _ _ _ _ _) (blw1 _ _)) (Cw.keep (Cw.fresh (by simp) _ _ _ _ _) (blw1 _ _)) hb
          have Kq' : Hid (Cw w3 w2.heap.size nq A3 lq.length c3) := Cw.keep (Cw.keep (Cw.fresh (by simp) _ _ _ _ _) (blw1 _ _)) hb
          have Kr' : Hid (Cw w3 (w2.heap.size + 1) nr B3 lr.length d3) := Cw.keep (Cw.fresh (by simp) _ _ _ _ _) hb
          have S1' : Hid (Sl w3 A1 l1 c1) := Sl.below ((S1.out.alloc _).alloc _) hb
          have S2' : Hid (Sl w3 A2 l2 c2) := Sl.below ((S2.out.alloc _).alloc _) hb
          have Sq' : Hid (Sl w3 A3 lq c3) := Sl.below ((Sq.out.alloc _).alloc _) hb
          have Sr' : Hid (Sl w3 B3 lr d3) := Sl.below ((Sr.out.alloc _).alloc _) hb
          have B' : Hid (Below w.heap.size w w3) := below_mono (below_mono (below_mono B.out (blw1 _ _)) (blw1 _ _)) hb
          clear hb Ka Fo Ko S1 S2 Sq Sr B
          have Ka := Ka'
          have Fo := Fo'
          have Ko := Ko'
          have Fq := Fq'
          have Kq := Kq'
          have Kr := Kr'
          have S1 := S1'
          have S2 := S2'
          have Sq := Sq'
          have Sr := Sr'
          have B := B'
          clear Ka' Fo' Ko' Fq' Kq' Kr' S1' S2' Sq' Sr' B'
          (try dsimp only at hss)
          (try dsimp only)
          have Ss : Hid (Sl w3 A4 ls c4) := hss
          clear hss
          obtain ⟨qr0, qr1⟩ := Kr.out
          replace hza : w.heap.size < w3.heap.size := lt_of_cell (a := ⟨w.heap.size, 0, none⟩) Ka.out.1
          replace hzo : w.heap.size + 1 < w3.heap.size := lt_of_cell (a := ⟨w.heap.size + 1, 0, none⟩) Ko.out.1
          have hzq : w2.heap.size < w3.heap.size := lt_of_cell (a := ⟨w2.heap.size, 0, none⟩) Kq.out.1
          have hzr : w2.heap.size + 1 < w3.heap.size := lt_of_cell (a := ⟨w2.heap.size + 1, 0, none⟩) Kr.out.1
          have hkas := hza
          have hkos := hzo
          have hkqs := hzq
          have hkrs := hzr
          go_wp2_with fail
          refine (rcompared_any nr ns _ _ lr ls _ _ _ (Sr.out.alloc _) (Ss.out.alloc _)).mono ?_
          rw [e5.out]
          rintro e w4 ⟨rfl, hb⟩
          clear qr0 qr1
          have Ka' : Hid (Cf w4 w.heap.size n1 A1 l1.length c1 n2 A2 l2.length c2) := Cf.keep (Cf.keep Ka.out (blw1 _ _)) hb
          have Fo' : Hid (Fw w4 (w.heap.size + 1)) := Fw.keep (Fw.keep Fo.out Ko.out (blw1 _ _)) (Cw.keep Ko.out (blw1 _ _)) hb
          have Ko' : Hid (Cw w4 (w.heap.size + 1) false none 0 0) := Cw.keep (Cw.keep Ko.out (blw1 _ _)) hb
          have Fq' : Hid (Fw w4 w2.heap.size) := Fw.keep (Fw.keep Fq.out Kq.out (blw1 _ _)) (Cw.keep Kq.out (blw1 _ _)) hb
          have Kq' : Hid (Cw w4 w2.heap.size nq A3 lq.length c3) := Cw.keep (Cw.keep Kq.out (blw1 _ _)) hb
          have Kr' : Hid (Cw w4 (w2.heap.size + 1) nr B3 lr.length d3) := Cw.keep (Cw.keep Kr.out (blw1 _ _)) hb
          have Ks' : Hid (Cw w4 w3.heap.size ns A4 ls.length c4) := Cw.keep (Cw.fresh (by simp) _ _ _ _ _) hb
          have S1' : Hid (Sl w4 A1 l1 c1) := Sl.below (S1.out.alloc _) hb
          have S2' : Hid (Sl w4 A2 l2 c2) := Sl.below (S2.out.alloc _) hb
          have Sq' : Hid (Sl w4 A3 lq c3) := Sl.below (Sq.out.alloc _) hb
          have Sr' : Hid (Sl w4 B3 lr d3) := Sl.below (Sr.out.alloc _) hb
          have Ss' : Hid (Sl w4 A4 ls c4) := Sl.below (Ss.out.alloc _) hb
          have B' : Hid (Below w.heap.size w w4) := below_mono (below_mono B.out (blw1 _ _)) hb
          clear hb Ka Fo Ko Fq Kq Kr S1 S2 Sq Sr Ss B
          have Ka := Ka'
          have Fo := Fo'
          have Ko := Ko'
          have Fq := Fq'
          have Kq := Kq'
          have Kr := Kr'
          have Ks := Ks'
          have S1 := S1'
          have S2 := S2'
          have Sq := Sq'
          have Sr := Sr'
          have Ss := Ss'
          have B := B'
          clear Ka' Fo' Ko' Fq' Kq' Kr' Ks' S1' S2' Sq' Sr' Ss' B'
          obtain ⟨qq0, qq1⟩ := Kq.out
          obtain ⟨fq0, fq1⟩ := Fq.out
          obtain ⟨qo0, qo1⟩ := Ko.out
          obtain ⟨fo0, fo1⟩ := Fo.out
          replace hza : w.heap.size < w4.heap.size := lt_of_cell (a := ⟨w.heap.size, 0, none⟩) Ka.out.1
          replace hzo : w.heap.size + 1 < w4.heap.size := lt_of_cell (a := ⟨w.heap.size + 1, 0, none⟩) Ko.out.1
          replace hzq : w2.heap.size < w4.heap.size := lt_of_cell (a := ⟨w2.heap.size, 0, none⟩) Kq.out.1
          replace hzr : w2.heap.size + 1 < w4.heap.size := lt_of_cell (a := ⟨w2.heap.size + 1, 0, none⟩) Kr.out.1
          have hzs : w3.heap.size < w4.heap.size := lt_of_cell (a := ⟨w3.heap.size, 0, none⟩) Ks.out.1
          have hk1 : lq[0]?.getD 0 < 4294967296 := getD_lim Sq.out.lim 0
          obtain ⟨bq, oq, rfl, hcell⟩ := Sq.out.rd.at_ (k := 0) hl
          rw [Nat.add_zero] at hcell
          generalize hk0 : lq[0]?.getD 0 = k0 at *
          clear hk0 hpar
          go_wp2
          exact bodyPost_ret (v := .tuple #[.agg #[.bool nq, .slice (some ⟨bq, oq, none⟩) lq.length c3], .int .i64 0]) (by simp [results, Tryz.results110, go_sem, qo0, qo1]) rfl (wres_store (r := ((nq, lq), 0)) Sq.out ⟨qo0, qo1⟩ B.out (by omega) _ _)
        · clear hs1 hs2 hb hx hy hp fs fr hq hm hs ho vr vs vo hc cz d1 d2 d3' vq hv hr h1 h2 hpar
          go_enter Tryz.func110, Tryz.ntmps110
          go_wp2_with fail
          refine (rfcheck_any n1 n2 A1 A2 l1 l2 c1 c2 _ ((S1.out.alloc _).alloc _) ((S2.out.alloc _).alloc _)).mono ?_
          rw [e1.out]
          rintro e w1 ⟨rfl, hb⟩
          have Ka' : Hid (Cf w1 w.heap.size n1 A1 l1.length c1 n2 A2 l2.length c2) := Cf.keep (Cf.keep (Cf.fresh (by simp) _ _ _ _ _ _ _ _ _) (blw1 _ _)) hb
          have Fo' : Hid (Fw w1 (w.heap.size + 1)) := Fw.keep (Fw.fresh (by simp) _ _) (Cw.fresh (by simp) _ _ _ _ _) hb
          have Ko' : Hid (Cw w1 (w.heap.size + 1) false none 0 0) := Cw.keep (Cw.fresh (by simp) _ _ _ _ _) hb
          have S1' : Hid (Sl w1 A1 l1 c1) := Sl.below ((S1.out.alloc _).alloc _) hb
          have S2' : Hid (Sl w1 A2 l2 c2) := Sl.below ((S2.out.alloc _).alloc _) hb
          have B' : Hid (Below w.heap.size w w1) := below_mono (below_mono (below_mono B.out (blw1 _ _)) (blw1 _ _)) hb
          clear hb S1 S2 B
          have Ka := Ka'
          have Fo := Fo'
          have Ko := Ko'
          have S1 := S1'
          have S2 := S2'
          have B := B'
          clear Ka' Fo' Ko' S1' S2' B'
          obtain ⟨qa0, qa1, qa2, qa3⟩ := Ka.out
          obtain ⟨qo0, qo1⟩ := Ko.out
          obtain ⟨fo0, fo1⟩ := Fo.out
          have hza : w.heap.size < w1.heap.size := lt_of_cell (a := ⟨w.heap.size, 0, none⟩) Ka.out.1
          have hzo : w.heap.size + 1 < w1.heap.size := lt_of_cell (a := ⟨w.heap.size + 1, 0, none⟩) Ko.out.1
          go_wp2_with fail
          refine (rdivmod_any _ _ _ _ _ _ _ _ _ S1.out S2.out).mono ?_
          rw [e3.out]
          rintro e w2 ⟨A3, c3, B3, d3, rfl, hsq, hsr, hb⟩
          clear qa0 qa1 qa2 qa3 qo0 qo1 fo0 fo1
          have Ka' : Hid (Cf w2 w.heap.size n1 A1 l1.length c1 n2 A2 l2.length c2) := Cf.keep Ka.out hb
          have Fo' : Hid (Fw w2 (w.heap.size + 1)) := Fw.keep Fo.out Ko.out hb
          have Ko' : Hid (Cw w2 (w.heap.size + 1) false none 0 0) := Cw.keep Ko.out hb
          have S1' : Hid (Sl w2 A1 l1 c1) := Sl.below S1.out hb
          have S2' : Hid (Sl w2 A2 l2 c2) := Sl.below S2.out hb
          have B' : Hid (Below w.heap.size w w2) := below_mono B.out hb
          clear hb Ka Fo Ko S1 S2 B
          have Ka := Ka'
          have Fo := Fo'
          have Ko := Ko'
          have S1 := S1'
          have S2 := S2'
          have B := B'
          clear Ka' Fo' Ko' S1' S2' B'
          (try dsimp only at hsq hsr)
          (try dsimp only)
          have Sq : Hid (Sl w2 A3 lq c3) := hsq
          clear hsq
          have Sr : Hid (Sl w2 B3 lr d3) := hsr
          clear hsr
          obtain ⟨qa0, qa1, qa2, qa3⟩ := Ka.out
          replace hza : w.heap.size < w2.heap.size := lt_of_cell (a := ⟨w.heap.size, 0, none⟩) Ka.out.1
          replace hzo : w.heap.size + 1 < w2.heap.size := lt_of_cell (a := ⟨w.heap.size + 1, 0, none⟩) Ko.out.1
          have hkaq := hza
          have hkoq := hzo
          have hkar := hza
          have hkor := hzo
          go_wp2_with fail
          refine (rsub_any n2 nr _ _ l2 lr _ _ _ ((S2.out.alloc _).alloc _) ((Sr.out.alloc _).alloc _)).mono ?_
          rw [e4.out]
          rintro e w3 ⟨A4, c4, rfl, hss, hb⟩
          clear qa0 qa1 qa2 qa3
          have Ka' : Hid (Cf w3 w.heap.size n1 A1 l1.length c1 n2 A2 l2.length c2) := Cf.keep (Cf.keep (Cf.keep Ka.out (blw1 _ _)) (blw1 _ _)) hb
          have Fo' : Hid (Fw w3 (w.heap.size + 1)) := Fw.keep (Fw.keep (Fw.keep Fo.out Ko.out (blw1 _ _)) (Cw.keep Ko.out (blw1 _ _)) (blw1 _ _)) (Cw.keep (Cw.keep Ko.out (blw1 _ _)) (blw1 _ _)) hb
          have Ko' : Hid (Cw w3 (w.heap.size + 1) false none 0 0) := Cw.keep (Cw.keep (Cw.keep Ko.out (blw1 _ _)) (blw1 _ _)) hb
          have Fq' : Hid (Fw w3 w2.heap.size) := Fw.keep (Fw.keep (Fw.fresh (by simp) _ _) (Cw.fresh (by simp) _ _ _ _ _) (blw1 _ _)) (Cw.keep (Cw.fresh (by simp) _ _ _ _ _) (blw1 _ _)) hb
          have Kq' : Hid (Cw w3 w2.heap.size nq A3 lq.length c3) := Cw.keep (Cw.keep (Cw.fresh (by simp) _ _ _ _ _) (blw1 _ _)) hb
          have Kr' : Hid (Cw w3 (w2.heap.size + 1) nr B3 lr.length d3) := Cw.keep (Cw.fresh (by simp) _ _ _ _ _) hb
          have S1' : Hid (Sl w3 A1 l1 c1) := Sl.below ((S1.out.alloc _).alloc _) hb
          have S2' : Hid (Sl w3 A2 l2 c2) := Sl.below ((S2.out.alloc _).alloc _) hb
          have Sq' : Hid (Sl w3 A3 lq c3) := Sl.below ((Sq.out.alloc _).alloc _) hb
          have Sr' : Hid (Sl w3 B3 lr d3) := Sl.below ((Sr.out.alloc _).alloc _) hb
          have B' : Hid (Below w.heap.size w w3) := below_mono (below_mono (below_mono B.out (blw1 _ _)) (blw1 _ _)) hb
          clear hb Ka Fo Ko S1 S2 Sq Sr B
          have Ka := Ka'
          have Fo := Fo'
          have Ko := Ko'
          have Fq := Fq'
          have Kq := Kq'
          have Kr := Kr'
          have S1 := S1'
          have S2 := S2'
          have Sq := Sq'
          have Sr := Sr'
          have B := B'
          clear Ka' Fo' Ko' Fq' Kq' Kr' S1' S2' Sq' Sr' B'
          (try dsimp only at hss)
          (try dsimp only)
          have Ss : Hid (Sl w3 A4 ls c4) := hss
          clear hss
          obtain ⟨qr0, qr1⟩ := Kr.out
          replace hza : w.heap.size < w3.heap.size := lt_of_cell (a := ⟨w.heap.size, 0, none⟩) Ka.out.1
          replace hzo : w.heap.size + 1 < w3.heap.size := lt_of_cell (a := ⟨w.heap.size + 1, 0, none⟩) Ko.out.1
          have hzq : w2.heap.size < w3.heap.size := lt_of_cell (a := ⟨w2.heap.size, 0, none⟩) Kq.out.1
          have hzr : w2.heap.size + 1 < w3.heap.size := lt_of_cell (a := ⟨w2.heap.size + 1, 0, none⟩) Kr.out.1
          have hkas := hza
          have hkos := hzo
          have hkqs := hzq
          have hkrs := hzr
          go_wp2_with fail
          refine (rcompared_any nr ns _ _ lr ls _ _ _ (Sr.out.alloc _) (Ss.out.alloc _)).mono ?_
          rw [e5.out]
          rintro e w4 ⟨rfl, hb⟩
          clear qr0 qr1
          have Ka' : Hid (Cf w4 w.heap.size n1 A1 l1.length c1 n2 A2 l2.length c2) := Cf.keep (Cf.keep Ka.out (blw1 _ _)) hb
          have Fo' : Hid (Fw w4 (w.heap.size + 1)) := Fw.keep (Fw.keep Fo.out Ko.out (blw1 _ _)) (Cw.keep Ko.out (blw1 _ _)) hb
          have Ko' : Hid (Cw w4 (w.heap.size + 1) false none 0 0) := Cw.keep (Cw.keep Ko.out (blw1 _ _)) hb
          have Fq' : Hid (Fw w4 w2.heap.size) := Fw.keep (Fw.keep Fq.out Kq.out (blw1 _ _)) (Cw.keep Kq.out (blw1 _ _)) hb
          have Kq' : Hid (Cw w4 w2.heap.size nq A3 lq.length c3) := Cw.keep (Cw.keep Kq.out (blw1 _ _)) hb
          have Kr' : Hid (Cw w4 (w2.heap.size + 1) nr B3 lr.length d3) := Cw.keep (Cw.keep Kr.out (blw1 _ _)) hb
          have Ks' : Hid (Cw w4 w3.heap.size ns A4 ls.length c4) := Cw.keep (Cw.fresh (by simp) _ _ _ _ _) hb
          have S1' : Hid (Sl w4 A1 l1 c1) := Sl.below (S1.out.alloc _) hb
          have S2' : Hid (Sl w4 A2 l2 c2) := Sl.below (S2.out.alloc _) hb
          have Sq' : Hid (Sl w4 A3 lq c3) := Sl.below (Sq.out.alloc _) hb
          have Sr' : Hid (Sl w4 B3 lr d3) := Sl.below (Sr.out.alloc _) hb
          have Ss' : Hid (Sl w4 A4 ls c4) := Sl.below (Ss.out.alloc _) hb
          have B' : Hid (Below w.heap.size w w4) := below_mono (below_mono B.out (blw1 _ _)) hb
          clear hb Ka Fo Ko Fq Kq Kr S1 S2 Sq Sr Ss B
          have Ka := Ka'
          have Fo := Fo'
          have Ko := Ko'
          have Fq := Fq'
          have Kq := Kq'
          have Kr := Kr'
          have Ks := Ks'
          have S1 := S1'
          have S2 := S2'
          have Sq := Sq'
          have Sr := Sr'
          have Ss := Ss'
          have B := B'
          clear Ka' Fo' Ko' Fq' Kq' Kr' Ks' S1' S2' Sq' Sr' Ss' B'
          obtain ⟨qq0, qq1⟩ := Kq.out
          obtain ⟨fq0, fq1⟩ := Fq.out
          obtain ⟨qo0, qo1⟩ := Ko.out
          obtain ⟨fo0, fo1⟩ := Fo.out
          replace hza : w.heap.size < w4.heap.size := lt_of_cell (a := ⟨w.heap.size, 0, none⟩) Ka.out.1
          replace hzo : w.heap.size + 1 < w4.heap.size := lt_of_cell (a := ⟨w.heap.size + 1, 0, none⟩) Ko.out.1
          replace hzq : w2.heap.size < w4.heap.size := lt_of_cell (a := ⟨w2.heap.size, 0, none⟩) Kq.out.1
          replace hzr : w2.heap.size + 1 < w4.heap.size := lt_of_cell (a := ⟨w2.heap.size + 1, 0, none⟩) Kr.out.1
          have hzs : w3.heap.size < w4.heap.size := lt_of_cell (a := ⟨w3.heap.size, 0, none⟩) Ks.out.1
          go_wp2
          exact bodyPost_ret (v := .tuple #[.agg #[.bool nq, .slice A3 lq.length c3], .int .i64 0]) (by simp [results, Tryz.results110, go_sem, qo0, qo1]) rfl (wres_store (r := ((nq, lq), 0)) Sq.out ⟨qo0, qo1⟩ B.out (by omega) _ _)

end Go.Proofs.YtlekjkljajeodaaGreat

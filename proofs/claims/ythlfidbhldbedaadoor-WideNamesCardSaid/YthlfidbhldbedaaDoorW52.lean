/- Walks: the helpers of the laws of wide. -/
import Derived.Test.YthlfidbhldbedaaDoorW4
import Derived.Test.YthlfidbhldbedaaDoorW6
import Derived.Test.YthlfidbhldbedaaDoorW36
import Derived.Test.YthlfidbhldbedaaDoorW39
import Derived.Test.YthlfidbhldbedaaDoorW40
import Derived.Test.YthlfidbhldbedaaDoorW44
import Derived.Test.YthlfidbhldbedaaDoorW48
import Derived.Test.YthlfidbhldbedaaDoorMathZ
namespace Go.Proofs.YthlfidbhldbedaaDoor
open Go.RowKit
attribute [local go_sem ↓] Go.wp_at_zero Go.wp_at_succ
theorem sameB_self (n : Bool) (l : List Nat) : sameB n l n l = true := by simp [sameB]

set_option maxRecDepth 100000 in
set_option maxHeartbeats 2000000 in
theorem lsame_any (n : Bool) (A : Option Addr) (l : List Nat) (c : Nat) (k : Int) (w : World) (hs : Sl w A l c) (hk : (n, l) = wOf k) (h1 : -9223372036854775808 ≤ k) (h2 : k ≤ 9223372036854775807) :
    Calls Tryd.prog 18 #[.agg #[.bool n, .slice A l.length c], .int .i64 0, .int .i64 k] w fun e w' => e = .returned (.bool true) ∧ Below w.heap.size w w' := by
  have Hs := Lib.hid hs
  have Hfr : Hid (∀ W, Calls Tryd.prog 38 #[.int .i64 k] W (WRes1 (n, l) W)) := fun W => by rw [hk]; exact rfrom_any k W h1 h2
  clear hs hk h1 h2
  go_enter Tryd.func18, Tryd.ntmps18
  go_wp2_with fail
  have S0 : Hid (Sl (w.alloc (.cells #[.bool n, .slice A l.length c] 24)).drew A l c) := (Hs.out.alloc _).drew
  have K0 : Hid (Cw (w.alloc (.cells #[.bool n, .slice A l.length c] 24)).drew w.heap.size n A l.length c) := (Cw.fresh rfl _ _ _ _ _).drew
  have B0 : Hid (Below w.heap.size w (w.alloc (.cells #[.bool n, .slice A l.length c] 24)).drew) := (blw1 _ _).drew
  go_region_held3 (fun w' => w'.cell? ⟨w.heap.size, 0, none⟩ = some (.bool n) ∧ w'.cell? ⟨w.heap.size, 1, none⟩ = some (.slice A l.length c))
    (first | exact K2.out | exact K1.out | exact K0.out)
    (first
      | (go_at_call 38; refine (Hfr.out _).mono ?_; rintro e v1 ⟨A3, c3, rfl, hs3, hb⟩; (try dsimp only at hs3); (try dsimp only); have S3 := Lib.hid hs3; have S1 := Lib.hid (S0.out.below hb); have K1 := Lib.hid (K0.out.keep hb); have B1 := Lib.hid (below_mono B0.out hb); clear hb hs3)
      | (go_at_call 37; refine (same_any n n A A3 l l c c3 _ S1.out S3.out).mono ?_; rw [sameB_self]; rintro e v2 ⟨rfl, hb⟩; have K2 := Lib.hid (K1.out.keep hb); have B2 := Lib.hid (below_mono B1.out hb); clear hb))
  all_goals (go_wp2; go_ret; exact ⟨rfl, B2.out⟩)

set_option maxRecDepth 100000 in
set_option maxHeartbeats 2000000 in
theorem whole_any (n : Bool) (A : Option Addr) (m c : Nat) (w : World) :
    Calls Tryd.prog 5 #[.bool n, .slice A m c] w fun e w' => e = .returned (.agg #[.bool n, .slice A m c]) ∧ Below w.heap.size w w' := by
  go_enter Tryd.func5, Tryd.ntmps5
  go_wp2
  exact bodyPost_ret (v := .agg #[.bool n, .slice A m c]) (by simp [results, Tryd.results5, go_sem]) rfl ⟨rfl, blw1 _ _⟩

theorem alive_text : textS false [0, 0, 1] = ([49, 56, 52, 52, 54, 55, 52, 52, 48, 55, 51, 55, 48, 57, 53, 53, 49, 54, 49, 54], 0) := by decide

theorem lit3 (w : World) {b : Nat} {e : TypeId} (hb : b = w.heap.size) : Sl (w.alloc (.cells #[.int .u32 0, .int .u32 0, .int .u32 1] e)) (some ⟨b, 0, none⟩) [0, 0, 1] 3 := by
  subst hb
  exact ⟨(Blk.new w e [0, 0, 1]).rd, by intro x hx; simp at hx; omega, by simp, by simp⟩

set_option maxRecDepth 100000 in
set_option maxHeartbeats 2000000 in
theorem alive_any (w : World) : Calls Tryd.prog 17 #[] w fun e w' => e = .returned (.bool true) ∧ Below w.heap.size w w' := by
  have B : Hid (Below w.heap.size w w) := Below.refl _ _
  obtain ⟨⟨nq, lq⟩, hq⟩ : ∃ p : Bool × List Nat, p = wOf (-4) := ⟨_, rfl⟩
  obtain ⟨⟨nr, lr⟩, hr⟩ : ∃ p : Bool × List Nat, p = wOf (1) := ⟨_, rfl⟩
  obtain ⟨⟨np, lp⟩, hp⟩ : ∃ p : Bool × List Nat, p = wOf (-4) := ⟨_, rfl⟩
  obtain ⟨⟨ns, ls⟩, hs⟩ : ∃ p : Bool × List Nat, p = wOf (-1) := ⟨_, rfl⟩
  obtain ⟨⟨nx, lx⟩, hx⟩ : ∃ p : Bool × List Nat, p = wOf (-3) := ⟨_, rfl⟩
  obtain ⟨⟨ny, ly⟩, hy⟩ : ∃ p : Bool × List Nat, p = wOf (6) := ⟨_, rfl⟩
  obtain ⟨⟨nz, lz⟩, hz⟩ : ∃ p : Bool × List Nat, p = wOf (9) := ⟨_, rfl⟩
  obtain ⟨⟨na, la⟩, ha⟩ : ∃ p : Bool × List Nat, p = wOf (-7) := ⟨_, rfl⟩
  have HFa : Hid (∀ W, Calls Tryd.prog 8 #[.int .i64 (-7)] W (WRes1 (na, la) W)) := fun W => by rw [ha]; exact from_any (-7) W (by omega) (by omega)
  obtain ⟨⟨nb, lb⟩, hb⟩ : ∃ p : Bool × List Nat, p = wOf (2) := ⟨_, rfl⟩
  have HFb : Hid (∀ W, Calls Tryd.prog 8 #[.int .i64 (2)] W (WRes1 (nb, lb) W)) := fun W => by rw [hb]; exact from_any (2) W (by omega) (by omega)
  have HRq : Hid (dmS na la nb lb = ((nq, lq), (nr, lr), 0)) := by obtain ⟨rfl, rfl⟩ := Prod.mk.inj ha; obtain ⟨rfl, rfl⟩ := Prod.mk.inj hb; obtain ⟨rfl, rfl⟩ := Prod.mk.inj hq; obtain ⟨rfl, rfl⟩ := Prod.mk.inj hr; rfl
  obtain ⟨⟨nc, lc⟩, hc⟩ : ∃ p : Bool × List Nat, p = wOf (7) := ⟨_, rfl⟩
  have HFc : Hid (∀ W, Calls Tryd.prog 8 #[.int .i64 (7)] W (WRes1 (nc, lc) W)) := fun W => by rw [hc]; exact from_any (7) W (by omega) (by omega)
  obtain ⟨⟨nd, ld⟩, hd⟩ : ∃ p : Bool × List Nat, p = wOf (-2) := ⟨_, rfl⟩
  have HFd : Hid (∀ W, Calls Tryd.prog 8 #[.int .i64 (-2)] W (WRes1 (nd, ld) W)) := fun W => by rw [hd]; exact from_any (-2) W (by omega) (by omega)
  have HRp : Hid (dmS nc lc nd ld = ((np, lp), (ns, ls), 0)) := by obtain ⟨rfl, rfl⟩ := Prod.mk.inj hc; obtain ⟨rfl, rfl⟩ := Prod.mk.inj hd; obtain ⟨rfl, rfl⟩ := Prod.mk.inj hp; obtain ⟨rfl, rfl⟩ := Prod.mk.inj hs; rfl
  obtain ⟨⟨ne, le⟩, he⟩ : ∃ p : Bool × List Nat, p = wOf (-5) := ⟨_, rfl⟩
  have HFe : Hid (∀ W, Calls Tryd.prog 8 #[.int .i64 (-5)] W (WRes1 (ne, le) W)) := fun W => by rw [he]; exact from_any (-5) W (by omega) (by omega)
  have HRx : Hid (shS ne le (-1) = ((nx, lx), 0)) := by obtain ⟨rfl, rfl⟩ := Prod.mk.inj he; obtain ⟨rfl, rfl⟩ := Prod.mk.inj hx; rfl
  obtain ⟨⟨nf, lf⟩, hf⟩ : ∃ p : Bool × List Nat, p = wOf (-12) := ⟨_, rfl⟩
  have HFf : Hid (∀ W, Calls Tryd.prog 8 #[.int .i64 (-12)] W (WRes1 (nf, lf) W)) := fun W => by rw [hf]; exact from_any (-12) W (by omega) (by omega)
  obtain ⟨⟨ng, lg⟩, hg⟩ : ∃ p : Bool × List Nat, p = wOf (18) := ⟨_, rfl⟩
  have HFg : Hid (∀ W, Calls Tryd.prog 8 #[.int .i64 (18)] W (WRes1 (ng, lg) W)) := fun W => by rw [hg]; exact from_any (18) W (by omega) (by omega)
  have HRy : Hid (gcdS nf lf ng lg = ((ny, ly), 0)) := by obtain ⟨rfl, rfl⟩ := Prod.mk.inj hf; obtain ⟨rfl, rfl⟩ := Prod.mk.inj hg; obtain ⟨rfl, rfl⟩ := Prod.mk.inj hy; rfl
  obtain ⟨⟨ni, li⟩, hi⟩ : ∃ p : Bool × List Nat, p = wOf (99) := ⟨_, rfl⟩
  have HFi : Hid (∀ W, Calls Tryd.prog 8 #[.int .i64 (99)] W (WRes1 (ni, li) W)) := fun W => by rw [hi]; exact from_any (99) W (by omega) (by omega)
  have HRz : Hid (sqrtS ni li = ((nz, lz), 0)) := by obtain ⟨rfl, rfl⟩ := Prod.mk.inj hi; obtain ⟨rfl, rfl⟩ := Prod.mk.inj hz; rfl
  have HT : Hid (textS false [0, 0, 1] = ([49, 56, 52, 52, 54, 55, 52, 52, 48, 55, 51, 55, 48, 57, 53, 53, 49, 54, 49, 54], 0)) := alive_text
  go_enter Tryd.func17, Tryd.ntmps17
  go_wp2_with fail
  refine (HFa.out _).mono ?_
  rintro e w1 ⟨A1, c1, rfl, hs1, hb⟩
  replace B : Hid (Below w.heap.size w w1) := below_mono B.out hb
  clear hb
  have Sa : Hid (Sl w1 A1 la c1) := hs1
  clear hs1
  (try dsimp only)
  go_wp2_with fail
  refine (HFb.out _).mono ?_
  rintro e w2 ⟨A2, c2, rfl, hs2, hb⟩
  replace Sa : Hid (Sl w2 A1 la c1) := Sl.below Sa.out hb
  replace B : Hid (Below w.heap.size w w2) := below_mono B.out hb
  clear hb
  have Sb : Hid (Sl w2 A2 lb c2) := hs2
  clear hs2
  (try dsimp only)
  go_wp2_with fail
  refine (wdivmod_any _ _ _ _ _ _ _ _ _ Sa.out Sb.out).mono ?_
  rw [HRq.out]
  rintro e w3 ⟨A3, c3, B3, d3, rfl, hs3, ht3, hb⟩
  replace Sa : Hid (Sl w3 A1 la c1) := Sl.below Sa.out hb
  replace Sb : Hid (Sl w3 A2 lb c2) := Sl.below Sb.out hb
  replace B : Hid (Below w.heap.size w w3) := below_mono B.out hb
  clear hb
  have Sq : Hid (Sl w3 A3 lq c3) := hs3
  have Sr : Hid (Sl w3 B3 lr d3) := ht3
  clear hs3 ht3
  (try dsimp only)
  clear Sa
  clear Sb
  go_wp2_with fail
  refine (HFc.out _).mono ?_
  rintro e w4 ⟨A4, c4, rfl, hs4, hb⟩
  have Kq : Hid (Cw w4 w3.heap.size nq A3 lq.length c3) := Cw.keep (Cw.keep (Cw.fresh (by simp) _ _ _ _ _) (blw1 _ _)) hb
  have Kr : Hid (Cw w4 (w3.heap.size + 1) nr B3 lr.length d3) := Cw.keep (Cw.fresh (by simp) _ _ _ _ _) hb
  replace Sq : Hid (Sl w4 A3 lq c3) := Sl.below ((Sq.out.alloc _).alloc _) hb
  replace Sr : Hid (Sl w4 B3 lr d3) := Sl.below ((Sr.out.alloc _).alloc _) hb
  replace B : Hid (Below w.heap.size w w4) := below_mono (below_mono (below_mono B.out (blw1 _ _)) (blw1 _ _)) hb
  clear hb
  have Sc : Hid (Sl w4 A4 lc c4) := hs4
  clear hs4
  (try dsimp only)
  have hzq : w3.heap.size < w4.heap.size := lt_of_cell (a := ⟨w3.heap.size, 0, none⟩) Kq.out.1
  have hzr : w3.heap.size + 1 < w4.heap.size := lt_of_cell (a := ⟨w3.heap.size + 1, 0, none⟩) Kr.out.1
  go_wp2_with fail
  refine (HFd.out _).mono ?_
  rintro e w5 ⟨A5, c5, rfl, hs5, hb⟩
  replace Kq : Hid (Cw w5 w3.heap.size nq A3 lq.length c3) := Cw.keep Kq.out hb
  replace Kr : Hid (Cw w5 (w3.heap.size + 1) nr B3 lr.length d3) := Cw.keep Kr.out hb
  replace Sq : Hid (Sl w5 A3 lq c3) := Sl.below Sq.out hb
  replace Sr : Hid (Sl w5 B3 lr d3) := Sl.below Sr.out hb
  replace Sc : Hid (Sl w5 A4 lc c4) := Sl.below Sc.out hb
  replace B : Hid (Below w.heap.size w w5) := below_mono B.out hb
  clear hb
  have Sd : Hid (Sl w5 A5 ld c5) := hs5
  clear hs5
  (try dsimp only)
  replace hzq : w3.heap.size < w5.heap.size := lt_of_cell (a := ⟨w3.heap.size, 0, none⟩) Kq.out.1
  replace hzr : w3.heap.size + 1 < w5.heap.size := lt_of_cell (a := ⟨w3.heap.size + 1, 0, none⟩) Kr.out.1
  go_wp2_with fail
  refine (wdivmod_any _ _ _ _ _ _ _ _ _ Sc.out Sd.out).mono ?_
  rw [HRp.out]
  rintro e w6 ⟨A6, c6, B6, d6, rfl, hs6, ht6, hb⟩
  replace Kq : Hid (Cw w6 w3.heap.size nq A3 lq.length c3) := Cw.keep Kq.out hb
  replace Kr : Hid (Cw w6 (w3.heap.size + 1) nr B3 lr.length d3) := Cw.keep Kr.out hb
  replace Sq : Hid (Sl w6 A3 lq c3) := Sl.below Sq.out hb
  replace Sr : Hid (Sl w6 B3 lr d3) := Sl.below Sr.out hb
  replace Sc : Hid (Sl w6 A4 lc c4) := Sl.below Sc.out hb
  replace Sd : Hid (Sl w6 A5 ld c5) := Sl.below Sd.out hb
  replace B : Hid (Below w.heap.size w w6) := below_mono B.out hb
  clear hb
  have Sp : Hid (Sl w6 A6 lp c6) := hs6
  have Ss : Hid (Sl w6 B6 ls d6) := ht6
  clear hs6 ht6
  (try dsimp only)
  replace hzq : w3.heap.size < w6.heap.size := lt_of_cell (a := ⟨w3.heap.size, 0, none⟩) Kq.out.1
  replace hzr : w3.heap.size + 1 < w6.heap.size := lt_of_cell (a := ⟨w3.heap.size + 1, 0, none⟩) Kr.out.1
  clear Sc
  clear Sd
  go_wp2_with fail
  refine (HFe.out _).mono ?_
  rintro e w7 ⟨A7, c7, rfl, hs7, hb⟩
  replace Kq : Hid (Cw w7 w3.heap.size nq A3 lq.length c3) := Cw.keep (Cw.keep (Cw.keep Kq.out (blw1 _ _)) (blw1 _ _)) hb
  replace Kr : Hid (Cw w7 (w3.heap.size + 1) nr B3 lr.length d3) := Cw.keep (Cw.keep (Cw.keep Kr.out (blw1 _ _)) (blw1 _ _)) hb
  have Kp : Hid (Cw w7 w6.heap.size np A6 lp.length c6) := Cw.keep (Cw.keep (Cw.fresh (by simp) _ _ _ _ _) (blw1 _ _)) hb
  have Ks : Hid (Cw w7 (w6.heap.size + 1) ns B6 ls.length d6) := Cw.keep (Cw.fresh (by simp) _ _ _ _ _) hb
  replace Sq : Hid (Sl w7 A3 lq c3) := Sl.below ((Sq.out.alloc _).alloc _) hb
  replace Sr : Hid (Sl w7 B3 lr d3) := Sl.below ((Sr.out.alloc _).alloc _) hb
  replace Sp : Hid (Sl w7 A6 lp c6) := Sl.below ((Sp.out.alloc _).alloc _) hb
  replace Ss : Hid (Sl w7 B6 ls d6) := Sl.below ((Ss.out.alloc _).alloc _) hb
  replace B : Hid (Below w.heap.size w w7) := below_mono (below_mono (below_mono B.out (blw1 _ _)) (blw1 _ _)) hb
  clear hb
  have Se : Hid (Sl w7 A7 le c7) := hs7
  clear hs7
  (try dsimp only)
  replace hzq : w3.heap.size < w7.heap.size := lt_of_cell (a := ⟨w3.heap.size, 0, none⟩) Kq.out.1
  replace hzr : w3.heap.size + 1 < w7.heap.size := lt_of_cell (a := ⟨w3.heap.size + 1, 0, none⟩) Kr.out.1
  have hzp : w6.heap.size < w7.heap.size := lt_of_cell (a := ⟨w6.heap.size, 0, none⟩) Kp.out.1
  have hzs : w6.heap.size + 1 < w7.heap.size := lt_of_cell (a := ⟨w6.heap.size + 1, 0, none⟩) Ks.out.1
  go_wp2_with fail
  refine (wshift_any _ _ _ _ _ _ Se.out).mono ?_
  rw [HRx.out]
  rintro e w8 ⟨A8, c8, rfl, hs8, hb⟩
  replace Kq : Hid (Cw w8 w3.heap.size nq A3 lq.length c3) := Cw.keep Kq.out hb
  replace Kr : Hid (Cw w8 (w3.heap.size + 1) nr B3 lr.length d3) := Cw.keep Kr.out hb
  replace Kp : Hid (Cw w8 w6.heap.size np A6 lp.length c6) := Cw.keep Kp.out hb
  replace Ks : Hid (Cw w8 (w6.heap.size + 1) ns B6 ls.length d6) := Cw.keep Ks.out hb
  replace Sq : Hid (Sl w8 A3 lq c3) := Sl.below Sq.out hb
  replace Sr : Hid (Sl w8 B3 lr d3) := Sl.below Sr.out hb
  replace Sp : Hid (Sl w8 A6 lp c6) := Sl.below Sp.out hb
  replace Ss : Hid (Sl w8 B6 ls d6) := Sl.below Ss.out hb
  replace Se : Hid (Sl w8 A7 le c7) := Sl.below Se.out hb
  replace B : Hid (Below w.heap.size w w8) := below_mono B.out hb
  clear hb
  have Sx : Hid (Sl w8 A8 lx c8) := hs8
  clear hs8
  (try dsimp only)
  replace hzq : w3.heap.size < w8.heap.size := lt_of_cell (a := ⟨w3.heap.size, 0, none⟩) Kq.out.1
  replace hzr : w3.heap.size + 1 < w8.heap.size := lt_of_cell (a := ⟨w3.heap.size + 1, 0, none⟩) Kr.out.1
  replace hzp : w6.heap.size < w8.heap.size := lt_of_cell (a := ⟨w6.heap.size, 0, none⟩) Kp.out.1
  replace hzs : w6.heap.size + 1 < w8.heap.size := lt_of_cell (a := ⟨w6.heap.size + 1, 0, none⟩) Ks.out.1
  clear Se
  go_wp2_with fail
  refine (HFf.out _).mono ?_
  rintro e w9 ⟨A9, c9, rfl, hs9, hb⟩
  replace Kq : Hid (Cw w9 w3.heap.size nq A3 lq.length c3) := Cw.keep (Cw.keep Kq.out (blw1 _ _)) hb
  replace Kr : Hid (Cw w9 (w3.heap.size + 1) nr B3 lr.length d3) := Cw.keep (Cw.keep Kr.out (blw1 _ _)) hb
  replace Kp : Hid (Cw w9 w6.heap.size np A6 lp.length c6) := Cw.keep (Cw.keep Kp.out (blw1 _ _)) hb
  replace Ks : Hid (Cw w9 (w6.heap.size + 1) ns B6 ls.length d6) := Cw.keep (Cw.keep Ks.out (blw1 _ _)) hb
  have Kx : Hid (Cw w9 w8.heap.size nx A8 lx.length c8) := Cw.keep (Cw.fresh (by simp) _ _ _ _ _) hb
  replace Sq : Hid (Sl w9 A3 lq c3) := Sl.below (Sq.out.alloc _) hb
  replace Sr : Hid (Sl w9 B3 lr d3) := Sl.below (Sr.out.alloc _) hb
  replace Sp : Hid (Sl w9 A6 lp c6) := Sl.below (Sp.out.alloc _) hb
  replace Ss : Hid (Sl w9 B6 ls d6) := Sl.below (Ss.out.alloc _) hb
  replace Sx : Hid (Sl w9 A8 lx c8) := Sl.below (Sx.out.alloc _) hb
  replace B : Hid (Below w.heap.size w w9) := below_mono (below_mono B.out (blw1 _ _)) hb
  clear hb
  have Sf : Hid (Sl w9 A9 lf c9) := hs9
  clear hs9
  (try dsimp only)
  replace hzq : w3.heap.size < w9.heap.size := lt_of_cell (a := ⟨w3.heap.size, 0, none⟩) Kq.out.1
  replace hzr : w3.heap.size + 1 < w9.heap.size := lt_of_cell (a := ⟨w3.heap.size + 1, 0, none⟩) Kr.out.1
  replace hzp : w6.heap.size < w9.heap.size := lt_of_cell (a := ⟨w6.heap.size, 0, none⟩) Kp.out.1
  replace hzs : w6.heap.size + 1 < w9.heap.size := lt_of_cell (a := ⟨w6.heap.size + 1, 0, none⟩) Ks.out.1
  have hzx : w8.heap.size < w9.heap.size := lt_of_cell (a := ⟨w8.heap.size, 0, none⟩) Kx.out.1
  go_wp2_with fail
  refine (HFg.out _).mono ?_
  rintro e w10 ⟨A10, c10, rfl, hs10, hb⟩
  replace Kq : Hid (Cw w10 w3.heap.size nq A3 lq.length c3) := Cw.keep Kq.out hb
  replace Kr : Hid (Cw w10 (w3.heap.size + 1) nr B3 lr.length d3) := Cw.keep Kr.out hb
  replace Kp : Hid (Cw w10 w6.heap.size np A6 lp.length c6) := Cw.keep Kp.out hb
  replace Ks : Hid (Cw w10 (w6.heap.size + 1) ns B6 ls.length d6) := Cw.keep Ks.out hb
  replace Kx : Hid (Cw w10 w8.heap.size nx A8 lx.length c8) := Cw.keep Kx.out hb
  replace Sq : Hid (Sl w10 A3 lq c3) := Sl.below Sq.out hb
  replace Sr : Hid (Sl w10 B3 lr d3) := Sl.below Sr.out hb
  replace Sp : Hid (Sl w10 A6 lp c6) := Sl.below Sp.out hb
  replace Ss : Hid (Sl w10 B6 ls d6) := Sl.below Ss.out hb
  replace Sx : Hid (Sl w10 A8 lx c8) := Sl.below Sx.out hb
  replace Sf : Hid (Sl w10 A9 lf c9) := Sl.below Sf.out hb
  replace B : Hid (Below w.heap.size w w10) := below_mono B.out hb
  clear hb
  have Sg : Hid (Sl w10 A10 lg c10) := hs10
  clear hs10
  (try dsimp only)
  replace hzq : w3.heap.size < w10.heap.size := lt_of_cell (a := ⟨w3.heap.size, 0, none⟩) Kq.out.1
  replace hzr : w3.heap.size + 1 < w10.heap.size := lt_of_cell (a := ⟨w3.heap.size + 1, 0, none⟩) Kr.out.1
  replace hzp : w6.heap.size < w10.heap.size := lt_of_cell (a := ⟨w6.heap.size, 0, none⟩) Kp.out.1
  replace hzs : w6.heap.size + 1 < w10.heap.size := lt_of_cell (a := ⟨w6.heap.size + 1, 0, none⟩) Ks.out.1
  replace hzx : w8.heap.size < w10.heap.size := lt_of_cell (a := ⟨w8.heap.size, 0, none⟩) Kx.out.1
  go_wp2_with fail
  refine (wgcd_any _ _ _ _ _ _ _ _ _ Sf.out Sg.out).mono ?_
  rw [HRy.out]
  rintro e w11 ⟨A11, c11, rfl, hs11, hb⟩
  replace Kq : Hid (Cw w11 w3.heap.size nq A3 lq.length c3) := Cw.keep Kq.out hb
  replace Kr : Hid (Cw w11 (w3.heap.size + 1) nr B3 lr.length d3) := Cw.keep Kr.out hb
  replace Kp : Hid (Cw w11 w6.heap.size np A6 lp.length c6) := Cw.keep Kp.out hb
  replace Ks : Hid (Cw w11 (w6.heap.size + 1) ns B6 ls.length d6) := Cw.keep Ks.out hb
  replace Kx : Hid (Cw w11 w8.heap.size nx A8 lx.length c8) := Cw.keep Kx.out hb
  replace Sq : Hid (Sl w11 A3 lq c3) := Sl.below Sq.out hb
  replace Sr : Hid (Sl w11 B3 lr d3) := Sl.below Sr.out hb
  replace Sp : Hid (Sl w11 A6 lp c6) := Sl.below Sp.out hb
  replace Ss : Hid (Sl w11 B6 ls d6) := Sl.below Ss.out hb
  replace Sx : Hid (Sl w11 A8 lx c8) := Sl.below Sx.out hb
  replace Sf : Hid (Sl w11 A9 lf c9) := Sl.below Sf.out hb
  replace Sg : Hid (Sl w11 A10 lg c10) := Sl.below Sg.out hb
  replace B : Hid (Below w.heap.size w w11) := below_mono B.out hb
  clear hb
  have Sy : Hid (Sl w11 A11 ly c11) := hs11
  clear hs11
  (try dsimp only)
  replace hzq : w3.heap.size < w11.heap.size := lt_of_cell (a := ⟨w3.heap.size, 0, none⟩) Kq.out.1
  replace hzr : w3.heap.size + 1 < w11.heap.size := lt_of_cell (a := ⟨w3.heap.size + 1, 0, none⟩) Kr.out.1
  replace hzp : w6.heap.size < w11.heap.size := lt_of_cell (a := ⟨w6.heap.size, 0, none⟩) Kp.out.1
  replace hzs : w6.heap.size + 1 < w11.heap.size := lt_of_cell (a := ⟨w6.heap.size + 1, 0, none⟩) Ks.out.1
  replace hzx : w8.heap.size < w11.heap.size := lt_of_cell (a := ⟨w8.heap.size, 0, none⟩) Kx.out.1
  clear Sf
  clear Sg
  go_wp2_with fail
  refine (HFi.out _).mono ?_
  rintro e w12 ⟨A12, c12, rfl, hs12, hb⟩
  replace Kq : Hid (Cw w12 w3.heap.size nq A3 lq.length c3) := Cw.keep (Cw.keep Kq.out (blw1 _ _)) hb
  replace Kr : Hid (Cw w12 (w3.heap.size + 1) nr B3 lr.length d3) := Cw.keep (Cw.keep Kr.out (blw1 _ _)) hb
  replace Kp : Hid (Cw w12 w6.heap.size np A6 lp.length c6) := Cw.keep (Cw.keep Kp.out (blw1 _ _)) hb
  replace Ks : Hid (Cw w12 (w6.heap.size + 1) ns B6 ls.length d6) := Cw.keep (Cw.keep Ks.out (blw1 _ _)) hb
  replace Kx : Hid (Cw w12 w8.heap.size nx A8 lx.length c8) := Cw.keep (Cw.keep Kx.out (blw1 _ _)) hb
  have Ky : Hid (Cw w12 w11.heap.size ny A11 ly.length c11) := Cw.keep (Cw.fresh (by simp) _ _ _ _ _) hb
  replace Sq : Hid (Sl w12 A3 lq c3) := Sl.below (Sq.out.alloc _) hb
  replace Sr : Hid (Sl w12 B3 lr d3) := Sl.below (Sr.out.alloc _) hb
  replace Sp : Hid (Sl w12 A6 lp c6) := Sl.below (Sp.out.alloc _) hb
  replace Ss : Hid (Sl w12 B6 ls d6) := Sl.below (Ss.out.alloc _) hb
  replace Sx : Hid (Sl w12 A8 lx c8) := Sl.below (Sx.out.alloc _) hb
  replace Sy : Hid (Sl w12 A11 ly c11) := Sl.below (Sy.out.alloc _) hb
  replace B : Hid (Below w.heap.size w w12) := below_mono (below_mono B.out (blw1 _ _)) hb
  clear hb
  have Si : Hid (Sl w12 A12 li c12) := hs12
  clear hs12
  (try dsimp only)
  replace hzq : w3.heap.size < w12.heap.size := lt_of_cell (a := ⟨w3.heap.size, 0, none⟩) Kq.out.1
  replace hzr : w3.heap.size + 1 < w12.heap.size := lt_of_cell (a := ⟨w3.heap.size + 1, 0, none⟩) Kr.out.1
  replace hzp : w6.heap.size < w12.heap.size := lt_of_cell (a := ⟨w6.heap.size, 0, none⟩) Kp.out.1
  replace hzs : w6.heap.size + 1 < w12.heap.size := lt_of_cell (a := ⟨w6.heap.size + 1, 0, none⟩) Ks.out.1
  replace hzx : w8.heap.size < w12.heap.size := lt_of_cell (a := ⟨w8.heap.size, 0, none⟩) Kx.out.1
  have hzy : w11.heap.size < w12.heap.size := lt_of_cell (a := ⟨w11.heap.size, 0, none⟩) Ky.out.1
  go_wp2_with fail
  refine (wsqrt_any _ _ _ _ _ Si.out).mono ?_
  rw [HRz.out]
  rintro e w13 ⟨A13, c13, rfl, hs13, hb⟩
  replace Kq : Hid (Cw w13 w3.heap.size nq A3 lq.length c3) := Cw.keep Kq.out hb
  replace Kr : Hid (Cw w13 (w3.heap.size + 1) nr B3 lr.length d3) := Cw.keep Kr.out hb
  replace Kp : Hid (Cw w13 w6.heap.size np A6 lp.length c6) := Cw.keep Kp.out hb
  replace Ks : Hid (Cw w13 (w6.heap.size + 1) ns B6 ls.length d6) := Cw.keep Ks.out hb
  replace Kx : Hid (Cw w13 w8.heap.size nx A8 lx.length c8) := Cw.keep Kx.out hb
  replace Ky : Hid (Cw w13 w11.heap.size ny A11 ly.length c11) := Cw.keep Ky.out hb
  replace Sq : Hid (Sl w13 A3 lq c3) := Sl.below Sq.out hb
  replace Sr : Hid (Sl w13 B3 lr d3) := Sl.below Sr.out hb
  replace Sp : Hid (Sl w13 A6 lp c6) := Sl.below Sp.out hb
  replace Ss : Hid (Sl w13 B6 ls d6) := Sl.below Ss.out hb
  replace Sx : Hid (Sl w13 A8 lx c8) := Sl.below Sx.out hb
  replace Sy : Hid (Sl w13 A11 ly c11) := Sl.below Sy.out hb
  replace Si : Hid (Sl w13 A12 li c12) := Sl.below Si.out hb
  replace B : Hid (Below w.heap.size w w13) := below_mono B.out hb
  clear hb
  have Sz : Hid (Sl w13 A13 lz c13) := hs13
  clear hs13
  (try dsimp only)
  replace hzq : w3.heap.size < w13.heap.size := lt_of_cell (a := ⟨w3.heap.size, 0, none⟩) Kq.out.1
  replace hzr : w3.heap.size + 1 < w13.heap.size := lt_of_cell (a := ⟨w3.heap.size + 1, 0, none⟩) Kr.out.1
  replace hzp : w6.heap.size < w13.heap.size := lt_of_cell (a := ⟨w6.heap.size, 0, none⟩) Kp.out.1
  replace hzs : w6.heap.size + 1 < w13.heap.size := lt_of_cell (a := ⟨w6.heap.size + 1, 0, none⟩) Ks.out.1
  replace hzx : w8.heap.size < w13.heap.size := lt_of_cell (a := ⟨w8.heap.size, 0, none⟩) Kx.out.1
  replace hzy : w11.heap.size < w13.heap.size := lt_of_cell (a := ⟨w11.heap.size, 0, none⟩) Ky.out.1
  clear Si
  go_wp2_with fail
  refine (whole_any false _ _ _ _).mono ?_
  rintro e w14 ⟨rfl, hb⟩
  have hb0 := Lib.hid hb
  replace Kq : Hid (Cw w14 w3.heap.size nq A3 lq.length c3) := Cw.keep (Cw.keep (Cw.keep Kq.out (blw1 _ _)) (blw1 _ _)) hb
  replace Kr : Hid (Cw w14 (w3.heap.size + 1) nr B3 lr.length d3) := Cw.keep (Cw.keep (Cw.keep Kr.out (blw1 _ _)) (blw1 _ _)) hb
  replace Kp : Hid (Cw w14 w6.heap.size np A6 lp.length c6) := Cw.keep (Cw.keep (Cw.keep Kp.out (blw1 _ _)) (blw1 _ _)) hb
  replace Ks : Hid (Cw w14 (w6.heap.size + 1) ns B6 ls.length d6) := Cw.keep (Cw.keep (Cw.keep Ks.out (blw1 _ _)) (blw1 _ _)) hb
  replace Kx : Hid (Cw w14 w8.heap.size nx A8 lx.length c8) := Cw.keep (Cw.keep (Cw.keep Kx.out (blw1 _ _)) (blw1 _ _)) hb
  replace Ky : Hid (Cw w14 w11.heap.size ny A11 ly.length c11) := Cw.keep (Cw.keep (Cw.keep Ky.out (blw1 _ _)) (blw1 _ _)) hb
  have Kz : Hid (Cw w14 w13.heap.size nz A13 lz.length c13) := Cw.keep (Cw.keep (Cw.fresh (by simp) _ _ _ _ _) (blw1 _ _)) hb
  replace Sq : Hid (Sl w14 A3 lq c3) := Sl.below ((Sq.out.alloc _).alloc _) hb
  replace Sr : Hid (Sl w14 B3 lr d3) := Sl.below ((Sr.out.alloc _).alloc _) hb
  replace Sp : Hid (Sl w14 A6 lp c6) := Sl.below ((Sp.out.alloc _).alloc _) hb
  replace Ss : Hid (Sl w14 B6 ls d6) := Sl.below ((Ss.out.alloc _).alloc _) hb
  replace Sx : Hid (Sl w14 A8 lx c8) := Sl.below ((Sx.out.alloc _).alloc _) hb
  replace Sy : Hid (Sl w14 A11 ly c11) := Sl.below ((Sy.out.alloc _).alloc _) hb
  replace Sz : Hid (Sl w14 A13 lz c13) := Sl.below ((Sz.out.alloc _).alloc _) hb
  replace B : Hid (Below w.heap.size w w14) := below_mono (below_mono (below_mono B.out (blw1 _ _)) (blw1 _ _)) hb
  clear hb
  have Slit : Hid (Sl w14 (some ⟨w13.heap.size + 1, 0, none⟩) [0, 0, 1] 3) := Lib.hid (Sl.below (lit3 _ (by simp)) hb0.out)
  replace hzq : w3.heap.size < w14.heap.size := lt_of_cell (a := ⟨w3.heap.size, 0, none⟩) Kq.out.1
  replace hzr : w3.heap.size + 1 < w14.heap.size := lt_of_cell (a := ⟨w3.heap.size + 1, 0, none⟩) Kr.out.1
  replace hzp : w6.heap.size < w14.heap.size := lt_of_cell (a := ⟨w6.heap.size, 0, none⟩) Kp.out.1
  replace hzs : w6.heap.size + 1 < w14.heap.size := lt_of_cell (a := ⟨w6.heap.size + 1, 0, none⟩) Ks.out.1
  replace hzx : w8.heap.size < w14.heap.size := lt_of_cell (a := ⟨w8.heap.size, 0, none⟩) Kx.out.1
  replace hzy : w11.heap.size < w14.heap.size := lt_of_cell (a := ⟨w11.heap.size, 0, none⟩) Ky.out.1
  have hzz : w13.heap.size < w14.heap.size := lt_of_cell (a := ⟨w13.heap.size, 0, none⟩) Kz.out.1
  go_wp2_with fail
  refine (wtext_any false _ [0, 0, 1] 3 _ Slit.out).mono ?_
  rw [HT.out]
  rintro e w15 ⟨rfl, hb⟩
  replace Kq : Hid (Cw w15 w3.heap.size nq A3 lq.length c3) := Cw.keep Kq.out hb
  replace Kr : Hid (Cw w15 (w3.heap.size + 1) nr B3 lr.length d3) := Cw.keep Kr.out hb
  replace Kp : Hid (Cw w15 w6.heap.size np A6 lp.length c6) := Cw.keep Kp.out hb
  replace Ks : Hid (Cw w15 (w6.heap.size + 1) ns B6 ls.length d6) := Cw.keep Ks.out hb
  replace Kx : Hid (Cw w15 w8.heap.size nx A8 lx.length c8) := Cw.keep Kx.out hb
  replace Ky : Hid (Cw w15 w11.heap.size ny A11 ly.length c11) := Cw.keep Ky.out hb
  replace Kz : Hid (Cw w15 w13.heap.size nz A13 lz.length c13) := Cw.keep Kz.out hb
  replace Sq : Hid (Sl w15 A3 lq c3) := Sl.below Sq.out hb
  replace Sr : Hid (Sl w15 B3 lr d3) := Sl.below Sr.out hb
  replace Sp : Hid (Sl w15 A6 lp c6) := Sl.below Sp.out hb
  replace Ss : Hid (Sl w15 B6 ls d6) := Sl.below Ss.out hb
  replace Sx : Hid (Sl w15 A8 lx c8) := Sl.below Sx.out hb
  replace Sy : Hid (Sl w15 A11 ly c11) := Sl.below Sy.out hb
  replace Sz : Hid (Sl w15 A13 lz c13) := Sl.below Sz.out hb
  replace Slit : Hid (Sl w15 (some ⟨w13.heap.size + 1, 0, none⟩) [0, 0, 1] 3) := Sl.below Slit.out hb
  replace B : Hid (Below w.heap.size w w15) := below_mono B.out hb
  clear hb
  replace hzq : w3.heap.size < w15.heap.size := lt_of_cell (a := ⟨w3.heap.size, 0, none⟩) Kq.out.1
  replace hzr : w3.heap.size + 1 < w15.heap.size := lt_of_cell (a := ⟨w3.heap.size + 1, 0, none⟩) Kr.out.1
  replace hzp : w6.heap.size < w15.heap.size := lt_of_cell (a := ⟨w6.heap.size, 0, none⟩) Kp.out.1
  replace hzs : w6.heap.size + 1 < w15.heap.size := lt_of_cell (a := ⟨w6.heap.size + 1, 0, none⟩) Ks.out.1
  replace hzx : w8.heap.size < w15.heap.size := lt_of_cell (a := ⟨w8.heap.size, 0, none⟩) Kx.out.1
  replace hzy : w11.heap.size < w15.heap.size := lt_of_cell (a := ⟨w11.heap.size, 0, none⟩) Ky.out.1
  replace hzz : w13.heap.size < w15.heap.size := lt_of_cell (a := ⟨w13.heap.size, 0, none⟩) Kz.out.1
  obtain ⟨qq0, qq1⟩ := Kq.out
  go_wp2_with fail
  refine (lsame_any nq _ lq _ (-4) _ Sq.out hq (by omega) (by omega)).mono ?_
  rintro e w16 ⟨rfl, hb⟩
  clear qq0 qq1
  replace Kq : Hid (Cw w16 w3.heap.size nq A3 lq.length c3) := Cw.keep Kq.out hb
  replace Kr : Hid (Cw w16 (w3.heap.size + 1) nr B3 lr.length d3) := Cw.keep Kr.out hb
  replace Kp : Hid (Cw w16 w6.heap.size np A6 lp.length c6) := Cw.keep Kp.out hb
  replace Ks : Hid (Cw w16 (w6.heap.size + 1) ns B6 ls.length d6) := Cw.keep Ks.out hb
  replace Kx : Hid (Cw w16 w8.heap.size nx A8 lx.length c8) := Cw.keep Kx.out hb
  replace Ky : Hid (Cw w16 w11.heap.size ny A11 ly.length c11) := Cw.keep Ky.out hb
  replace Kz : Hid (Cw w16 w13.heap.size nz A13 lz.length c13) := Cw.keep Kz.out hb
  replace Sq : Hid (Sl w16 A3 lq c3) := Sl.below Sq.out hb
  replace Sr : Hid (Sl w16 B3 lr d3) := Sl.below Sr.out hb
  replace Sp : Hid (Sl w16 A6 lp c6) := Sl.below Sp.out hb
  replace Ss : Hid (Sl w16 B6 ls d6) := Sl.below Ss.out hb
  replace Sx : Hid (Sl w16 A8 lx c8) := Sl.below Sx.out hb
  replace Sy : Hid (Sl w16 A11 ly c11) := Sl.below Sy.out hb
  replace Sz : Hid (Sl w16 A13 lz c13) := Sl.below Sz.out hb
  replace Slit : Hid (Sl w16 (some ⟨w13.heap.size + 1, 0, none⟩) [0, 0, 1] 3) := Sl.below Slit.out hb
  replace B : Hid (Below w.heap.size w w16) := below_mono B.out hb
  clear hb
  replace hzq : w3.heap.size < w16.heap.size := lt_of_cell (a := ⟨w3.heap.size, 0, none⟩) Kq.out.1
  replace hzr : w3.heap.size + 1 < w16.heap.size := lt_of_cell (a := ⟨w3.heap.size + 1, 0, none⟩) Kr.out.1
  replace hzp : w6.heap.size < w16.heap.size := lt_of_cell (a := ⟨w6.heap.size, 0, none⟩) Kp.out.1
  replace hzs : w6.heap.size + 1 < w16.heap.size := lt_of_cell (a := ⟨w6.heap.size + 1, 0, none⟩) Ks.out.1
  replace hzx : w8.heap.size < w16.heap.size := lt_of_cell (a := ⟨w8.heap.size, 0, none⟩) Kx.out.1
  replace hzy : w11.heap.size < w16.heap.size := lt_of_cell (a := ⟨w11.heap.size, 0, none⟩) Ky.out.1
  replace hzz : w13.heap.size < w16.heap.size := lt_of_cell (a := ⟨w13.heap.size, 0, none⟩) Kz.out.1
  obtain ⟨qr0, qr1⟩ := Kr.out
  go_wp2_with fail
  refine (lsame_any nr _ lr _ (1) _ Sr.out hr (by omega) (by omega)).mono ?_
  rintro e w17 ⟨rfl, hb⟩
  clear qr0 qr1
  replace Kq : Hid (Cw w17 w3.heap.size nq A3 lq.length c3) := Cw.keep Kq.out hb
  replace Kr : Hid (Cw w17 (w3.heap.size + 1) nr B3 lr.length d3) := Cw.keep Kr.out hb
  replace Kp : Hid (Cw w17 w6.heap.size np A6 lp.length c6) := Cw.keep Kp.out hb
  replace Ks : Hid (Cw w17 (w6.heap.size + 1) ns B6 ls.length d6) := Cw.keep Ks.out hb
  replace Kx : Hid (Cw w17 w8.heap.size nx A8 lx.length c8) := Cw.keep Kx.out hb
  replace Ky : Hid (Cw w17 w11.heap.size ny A11 ly.length c11) := Cw.keep Ky.out hb
  replace Kz : Hid (Cw w17 w13.heap.size nz A13 lz.length c13) := Cw.keep Kz.out hb
  replace Sq : Hid (Sl w17 A3 lq c3) := Sl.below Sq.out hb
  replace Sr : Hid (Sl w17 B3 lr d3) := Sl.below Sr.out hb
  replace Sp : Hid (Sl w17 A6 lp c6) := Sl.below Sp.out hb
  replace Ss : Hid (Sl w17 B6 ls d6) := Sl.below Ss.out hb
  replace Sx : Hid (Sl w17 A8 lx c8) := Sl.below Sx.out hb
  replace Sy : Hid (Sl w17 A11 ly c11) := Sl.below Sy.out hb
  replace Sz : Hid (Sl w17 A13 lz c13) := Sl.below Sz.out hb
  replace Slit : Hid (Sl w17 (some ⟨w13.heap.size + 1, 0, none⟩) [0, 0, 1] 3) := Sl.below Slit.out hb
  replace B : Hid (Below w.heap.size w w17) := below_mono B.out hb
  clear hb
  replace hzq : w3.heap.size < w17.heap.size := lt_of_cell (a := ⟨w3.heap.size, 0, none⟩) Kq.out.1
  replace hzr : w3.heap.size + 1 < w17.heap.size := lt_of_cell (a := ⟨w3.heap.size + 1, 0, none⟩) Kr.out.1
  replace hzp : w6.heap.size < w17.heap.size := lt_of_cell (a := ⟨w6.heap.size, 0, none⟩) Kp.out.1
  replace hzs : w6.heap.size + 1 < w17.heap.size := lt_of_cell (a := ⟨w6.heap.size + 1, 0, none⟩) Ks.out.1
  replace hzx : w8.heap.size < w17.heap.size := lt_of_cell (a := ⟨w8.heap.size, 0, none⟩) Kx.out.1
  replace hzy : w11.heap.size < w17.heap.size := lt_of_cell (a := ⟨w11.heap.size, 0, none⟩) Ky.out.1
  replace hzz : w13.heap.size < w17.heap.size := lt_of_cell (a := ⟨w13.heap.size, 0, none⟩) Kz.out.1
  obtain ⟨qp0, qp1⟩ := Kp.out
  go_wp2_with fail
  refine (lsame_any np _ lp _ (-4) _ Sp.out hp (by omega) (by omega)).mono ?_
  rintro e w18 ⟨rfl, hb⟩
  clear qp0 qp1
  replace Kq : Hid (Cw w18 w3.heap.size nq A3 lq.length c3) := Cw.keep Kq.out hb
  replace Kr : Hid (Cw w18 (w3.heap.size + 1) nr B3 lr.length d3) := Cw.keep Kr.out hb
  replace Kp : Hid (Cw w18 w6.heap.size np A6 lp.length c6) := Cw.keep Kp.out hb
  replace Ks : Hid (Cw w18 (w6.heap.size + 1) ns B6 ls.length d6) := Cw.keep Ks.out hb
  replace Kx : Hid (Cw w18 w8.heap.size nx A8 lx.length c8) := Cw.keep Kx.out hb
  replace Ky : Hid (Cw w18 w11.heap.size ny A11 ly.length c11) := Cw.keep Ky.out hb
  replace Kz : Hid (Cw w18 w13.heap.size nz A13 lz.length c13) := Cw.keep Kz.out hb
  replace Sq : Hid (Sl w18 A3 lq c3) := Sl.below Sq.out hb
  replace Sr : Hid (Sl w18 B3 lr d3) := Sl.below Sr.out hb
  replace Sp : Hid (Sl w18 A6 lp c6) := Sl.below Sp.out hb
  replace Ss : Hid (Sl w18 B6 ls d6) := Sl.below Ss.out hb
  replace Sx : Hid (Sl w18 A8 lx c8) := Sl.below Sx.out hb
  replace Sy : Hid (Sl w18 A11 ly c11) := Sl.below Sy.out hb
  replace Sz : Hid (Sl w18 A13 lz c13) := Sl.below Sz.out hb
  replace Slit : Hid (Sl w18 (some ⟨w13.heap.size + 1, 0, none⟩) [0, 0, 1] 3) := Sl.below Slit.out hb
  replace B : Hid (Below w.heap.size w w18) := below_mono B.out hb
  clear hb
  replace hzq : w3.heap.size < w18.heap.size := lt_of_cell (a := ⟨w3.heap.size, 0, none⟩) Kq.out.1
  replace hzr : w3.heap.size + 1 < w18.heap.size := lt_of_cell (a := ⟨w3.heap.size + 1, 0, none⟩) Kr.out.1
  replace hzp : w6.heap.size < w18.heap.size := lt_of_cell (a := ⟨w6.heap.size, 0, none⟩) Kp.out.1
  replace hzs : w6.heap.size + 1 < w18.heap.size := lt_of_cell (a := ⟨w6.heap.size + 1, 0, none⟩) Ks.out.1
  replace hzx : w8.heap.size < w18.heap.size := lt_of_cell (a := ⟨w8.heap.size, 0, none⟩) Kx.out.1
  replace hzy : w11.heap.size < w18.heap.size := lt_of_cell (a := ⟨w11.heap.size, 0, none⟩) Ky.out.1
  replace hzz : w13.heap.size < w18.heap.size := lt_of_cell (a := ⟨w13.heap.size, 0, none⟩) Kz.out.1
  obtain ⟨qs0, qs1⟩ := Ks.out
  go_wp2_with fail
  refine (lsame_any ns _ ls _ (-1) _ Ss.out hs (by omega) (by omega)).mono ?_
  rintro e w19 ⟨rfl, hb⟩
  clear qs0 qs1
  replace Kq : Hid (Cw w19 w3.heap.size nq A3 lq.length c3) := Cw.keep Kq.out hb
  replace Kr : Hid (Cw w19 (w3.heap.size + 1) nr B3 lr.length d3) := Cw.keep Kr.out hb
  replace Kp : Hid (Cw w19 w6.heap.size np A6 lp.length c6) := Cw.keep Kp.out hb
  replace Ks : Hid (Cw w19 (w6.heap.size + 1) ns B6 ls.length d6) := Cw.keep Ks.out hb
  replace Kx : Hid (Cw w19 w8.heap.size nx A8 lx.length c8) := Cw.keep Kx.out hb
  replace Ky : Hid (Cw w19 w11.heap.size ny A11 ly.length c11) := Cw.keep Ky.out hb
  replace Kz : Hid (Cw w19 w13.heap.size nz A13 lz.length c13) := Cw.keep Kz.out hb
  replace Sq : Hid (Sl w19 A3 lq c3) := Sl.below Sq.out hb
  replace Sr : Hid (Sl w19 B3 lr d3) := Sl.below Sr.out hb
  replace Sp : Hid (Sl w19 A6 lp c6) := Sl.below Sp.out hb
  replace Ss : Hid (Sl w19 B6 ls d6) := Sl.below Ss.out hb
  replace Sx : Hid (Sl w19 A8 lx c8) := Sl.below Sx.out hb
  replace Sy : Hid (Sl w19 A11 ly c11) := Sl.below Sy.out hb
  replace Sz : Hid (Sl w19 A13 lz c13) := Sl.below Sz.out hb
  replace Slit : Hid (Sl w19 (some ⟨w13.heap.size + 1, 0, none⟩) [0, 0, 1] 3) := Sl.below Slit.out hb
  replace B : Hid (Below w.heap.size w w19) := below_mono B.out hb
  clear hb
  replace hzq : w3.heap.size < w19.heap.size := lt_of_cell (a := ⟨w3.heap.size, 0, none⟩) Kq.out.1
  replace hzr : w3.heap.size + 1 < w19.heap.size := lt_of_cell (a := ⟨w3.heap.size + 1, 0, none⟩) Kr.out.1
  replace hzp : w6.heap.size < w19.heap.size := lt_of_cell (a := ⟨w6.heap.size, 0, none⟩) Kp.out.1
  replace hzs : w6.heap.size + 1 < w19.heap.size := lt_of_cell (a := ⟨w6.heap.size + 1, 0, none⟩) Ks.out.1
  replace hzx : w8.heap.size < w19.heap.size := lt_of_cell (a := ⟨w8.heap.size, 0, none⟩) Kx.out.1
  replace hzy : w11.heap.size < w19.heap.size := lt_of_cell (a := ⟨w11.heap.size, 0, none⟩) Ky.out.1
  replace hzz : w13.heap.size < w19.heap.size := lt_of_cell (a := ⟨w13.heap.size, 0, none⟩) Kz.out.1
  obtain ⟨qx0, qx1⟩ := Kx.out
  go_wp2_with fail
  refine (lsame_any nx _ lx _ (-3) _ Sx.out hx (by omega) (by omega)).mono ?_
  rintro e w20 ⟨rfl, hb⟩
  clear qx0 qx1
  replace Kq : Hid (Cw w20 w3.heap.size nq A3 lq.length c3) := Cw.keep Kq.out hb
  replace Kr : Hid (Cw w20 (w3.heap.size + 1) nr B3 lr.length d3) := Cw.keep Kr.out hb
  replace Kp : Hid (Cw w20 w6.heap.size np A6 lp.length c6) := Cw.keep Kp.out hb
  replace Ks : Hid (Cw w20 (w6.heap.size + 1) ns B6 ls.length d6) := Cw.keep Ks.out hb
  replace Kx : Hid (Cw w20 w8.heap.size nx A8 lx.length c8) := Cw.keep Kx.out hb
  replace Ky : Hid (Cw w20 w11.heap.size ny A11 ly.length c11) := Cw.keep Ky.out hb
  replace Kz : Hid (Cw w20 w13.heap.size nz A13 lz.length c13) := Cw.keep Kz.out hb
  replace Sq : Hid (Sl w20 A3 lq c3) := Sl.below Sq.out hb
  replace Sr : Hid (Sl w20 B3 lr d3) := Sl.below Sr.out hb
  replace Sp : Hid (Sl w20 A6 lp c6) := Sl.below Sp.out hb
  replace Ss : Hid (Sl w20 B6 ls d6) := Sl.below Ss.out hb
  replace Sx : Hid (Sl w20 A8 lx c8) := Sl.below Sx.out hb
  replace Sy : Hid (Sl w20 A11 ly c11) := Sl.below Sy.out hb
  replace Sz : Hid (Sl w20 A13 lz c13) := Sl.below Sz.out hb
  replace Slit : Hid (Sl w20 (some ⟨w13.heap.size + 1, 0, none⟩) [0, 0, 1] 3) := Sl.below Slit.out hb
  replace B : Hid (Below w.heap.size w w20) := below_mono B.out hb
  clear hb
  replace hzq : w3.heap.size < w20.heap.size := lt_of_cell (a := ⟨w3.heap.size, 0, none⟩) Kq.out.1
  replace hzr : w3.heap.size + 1 < w20.heap.size := lt_of_cell (a := ⟨w3.heap.size + 1, 0, none⟩) Kr.out.1
  replace hzp : w6.heap.size < w20.heap.size := lt_of_cell (a := ⟨w6.heap.size, 0, none⟩) Kp.out.1
  replace hzs : w6.heap.size + 1 < w20.heap.size := lt_of_cell (a := ⟨w6.heap.size + 1, 0, none⟩) Ks.out.1
  replace hzx : w8.heap.size < w20.heap.size := lt_of_cell (a := ⟨w8.heap.size, 0, none⟩) Kx.out.1
  replace hzy : w11.heap.size < w20.heap.size := lt_of_cell (a := ⟨w11.heap.size, 0, none⟩) Ky.out.1
  replace hzz : w13.heap.size < w20.heap.size := lt_of_cell (a := ⟨w13.heap.size, 0, none⟩) Kz.out.1
  obtain ⟨qy0, qy1⟩ := Ky.out
  go_wp2_with fail
  refine (lsame_any ny _ ly _ (6) _ Sy.out hy (by omega) (by omega)).mono ?_
  rintro e w21 ⟨rfl, hb⟩
  clear qy0 qy1
  replace Kq : Hid (Cw w21 w3.heap.size nq A3 lq.length c3) := Cw.keep Kq.out hb
  replace Kr : Hid (Cw w21 (w3.heap.size + 1) nr B3 lr.length d3) := Cw.keep Kr.out hb
  replace Kp : Hid (Cw w21 w6.heap.size np A6 lp.length c6) := Cw.keep Kp.out hb
  replace Ks : Hid (Cw w21 (w6.heap.size + 1) ns B6 ls.length d6) := Cw.keep Ks.out hb
  replace Kx : Hid (Cw w21 w8.heap.size nx A8 lx.length c8) := Cw.keep Kx.out hb
  replace Ky : Hid (Cw w21 w11.heap.size ny A11 ly.length c11) := Cw.keep Ky.out hb
  replace Kz : Hid (Cw w21 w13.heap.size nz A13 lz.length c13) := Cw.keep Kz.out hb
  replace Sq : Hid (Sl w21 A3 lq c3) := Sl.below Sq.out hb
  replace Sr : Hid (Sl w21 B3 lr d3) := Sl.below Sr.out hb
  replace Sp : Hid (Sl w21 A6 lp c6) := Sl.below Sp.out hb
  replace Ss : Hid (Sl w21 B6 ls d6) := Sl.below Ss.out hb
  replace Sx : Hid (Sl w21 A8 lx c8) := Sl.below Sx.out hb
  replace Sy : Hid (Sl w21 A11 ly c11) := Sl.below Sy.out hb
  replace Sz : Hid (Sl w21 A13 lz c13) := Sl.below Sz.out hb
  replace Slit : Hid (Sl w21 (some ⟨w13.heap.size + 1, 0, none⟩) [0, 0, 1] 3) := Sl.below Slit.out hb
  replace B : Hid (Below w.heap.size w w21) := below_mono B.out hb
  clear hb
  replace hzq : w3.heap.size < w21.heap.size := lt_of_cell (a := ⟨w3.heap.size, 0, none⟩) Kq.out.1
  replace hzr : w3.heap.size + 1 < w21.heap.size := lt_of_cell (a := ⟨w3.heap.size + 1, 0, none⟩) Kr.out.1
  replace hzp : w6.heap.size < w21.heap.size := lt_of_cell (a := ⟨w6.heap.size, 0, none⟩) Kp.out.1
  replace hzs : w6.heap.size + 1 < w21.heap.size := lt_of_cell (a := ⟨w6.heap.size + 1, 0, none⟩) Ks.out.1
  replace hzx : w8.heap.size < w21.heap.size := lt_of_cell (a := ⟨w8.heap.size, 0, none⟩) Kx.out.1
  replace hzy : w11.heap.size < w21.heap.size := lt_of_cell (a := ⟨w11.heap.size, 0, none⟩) Ky.out.1
  replace hzz : w13.heap.size < w21.heap.size := lt_of_cell (a := ⟨w13.heap.size, 0, none⟩) Kz.out.1
  obtain ⟨qz0, qz1⟩ := Kz.out
  go_wp2_with fail
  refine (lsame_any nz _ lz _ (9) _ Sz.out hz (by omega) (by omega)).mono ?_
  rintro e w22 ⟨rfl, hb⟩
  clear qz0 qz1
  replace Kq : Hid (Cw w22 w3.heap.size nq A3 lq.length c3) := Cw.keep Kq.out hb
  replace Kr : Hid (Cw w22 (w3.heap.size + 1) nr B3 lr.length d3) := Cw.keep Kr.out hb
  replace Kp : Hid (Cw w22 w6.heap.size np A6 lp.length c6) := Cw.keep Kp.out hb
  replace Ks : Hid (Cw w22 (w6.heap.size + 1) ns B6 ls.length d6) := Cw.keep Ks.out hb
  replace Kx : Hid (Cw w22 w8.heap.size nx A8 lx.length c8) := Cw.keep Kx.out hb
  replace Ky : Hid (Cw w22 w11.heap.size ny A11 ly.length c11) := Cw.keep Ky.out hb
  replace Kz : Hid (Cw w22 w13.heap.size nz A13 lz.length c13) := Cw.keep Kz.out hb
  replace Sq : Hid (Sl w22 A3 lq c3) := Sl.below Sq.out hb
  replace Sr : Hid (Sl w22 B3 lr d3) := Sl.below Sr.out hb
  replace Sp : Hid (Sl w22 A6 lp c6) := Sl.below Sp.out hb
  replace Ss : Hid (Sl w22 B6 ls d6) := Sl.below Ss.out hb
  replace Sx : Hid (Sl w22 A8 lx c8) := Sl.below Sx.out hb
  replace Sy : Hid (Sl w22 A11 ly c11) := Sl.below Sy.out hb
  replace Sz : Hid (Sl w22 A13 lz c13) := Sl.below Sz.out hb
  replace Slit : Hid (Sl w22 (some ⟨w13.heap.size + 1, 0, none⟩) [0, 0, 1] 3) := Sl.below Slit.out hb
  replace B : Hid (Below w.heap.size w w22) := below_mono B.out hb
  clear hb
  replace hzq : w3.heap.size < w22.heap.size := lt_of_cell (a := ⟨w3.heap.size, 0, none⟩) Kq.out.1
  replace hzr : w3.heap.size + 1 < w22.heap.size := lt_of_cell (a := ⟨w3.heap.size + 1, 0, none⟩) Kr.out.1
  replace hzp : w6.heap.size < w22.heap.size := lt_of_cell (a := ⟨w6.heap.size, 0, none⟩) Kp.out.1
  replace hzs : w6.heap.size + 1 < w22.heap.size := lt_of_cell (a := ⟨w6.heap.size + 1, 0, none⟩) Ks.out.1
  replace hzx : w8.heap.size < w22.heap.size := lt_of_cell (a := ⟨w8.heap.size, 0, none⟩) Kx.out.1
  replace hzy : w11.heap.size < w22.heap.size := lt_of_cell (a := ⟨w11.heap.size, 0, none⟩) Ky.out.1
  replace hzz : w13.heap.size < w22.heap.size := lt_of_cell (a := ⟨w13.heap.size, 0, none⟩) Kz.out.1
  go_wp2
  go_ret
  exact ⟨rfl, B.out⟩

end Go.Proofs.YthlfidbhldbedaaDoor

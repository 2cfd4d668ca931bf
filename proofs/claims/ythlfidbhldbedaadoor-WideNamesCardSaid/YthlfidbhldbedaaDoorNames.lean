/- The walk of the law WideNames. -/
import Derived.Test.YthlfidbhldbedaaDoorW8
import Derived.Test.YthlfidbhldbedaaDoorW19
import Derived.Test.YthlfidbhldbedaaDoorW43
import Derived.Test.YthlfidbhldbedaaDoorW50
import Derived.Test.YthlfidbhldbedaaDoorW52
import Derived.Test.YthlfidbhldbedaaDoorMathN
import Derived.Deep.CutRange
namespace Go.Proofs.YthlfidbhldbedaaDoor
open Go.RowKit
attribute [local go_sem ↓] Go.wp_at_zero Go.wp_at_succ
theorem lit_sl (w : World) (xs : List Nat) {b n : Nat} {e : TypeId} {cs : Array Value} (hcs : cs = (xs.map fun x => Value.int .u32 (x : Nat)).toArray) (hb : b = w.heap.size) (hl : ∀ x ∈ xs, x < 4294967296) (hn : xs.length = n ∧ n ≤ 1000) :
    Sl (w.alloc (.cells cs e)) (some ⟨b, 0, none⟩) xs n := by
  subst hcs
  subst hb
  exact ⟨(Blk.new w e xs).rd, hl, by omega, by omega⟩

theorem ZP.c {X W : World} {g : Nat} (h : ZP X g W) : W.cell? ⟨g, 0, none⟩ = some (.bool false) ∧ W.cell? ⟨g, 1, none⟩ = some (.slice none 0 0) := h.z

set_option maxRecDepth 100000 in
set_option maxHeartbeats 8000000 in
theorem wideNames_walk (w : World) : Calls Tryd.prog 3 #[] w fun e w' => e = .returned (.bool true) ∧ Below w.heap.size w w' := by
  have B : Hid (Below w.heap.size w w) := Below.refl _ _
  have Sz : Hid (Sl w none ([] : List Nat) 0) := Sl.nil _ _ _
  have HB1 : Hid (chk true [] = 8) := rfl
  have HB2 : Hid (chk false [1, 0] = 8) := rfl
  have HB0 : Hid (chk false [] = 0) := rfl
  obtain ⟨o4097, ho4097⟩ : ∃ l, Hid (l = onesL 4097) := ⟨_, Lib.hid rfl⟩
  have HO4097 : Hid (∀ W, Calls Tryd.prog 6 #[.int .i64 4097] W (WRes1 (false, o4097) W)) := fun W => by rw [ho4097.out]; exact ones_any 4097 (by omega) W
  have HB3 : Hid (chk false o4097 = 8) := by unfold Hid; rw [ho4097.out]; exact ones_bad rfl
  obtain ⟨o4096, ho4096⟩ : ∃ l, Hid (l = onesL 4096) := ⟨_, Lib.hid rfl⟩
  have HO4096 : Hid (∀ W, Calls Tryd.prog 6 #[.int .i64 4096] W (WRes1 (false, o4096) W)) := fun W => by rw [ho4096.out]; exact ones_any 4096 (by omega) W
  have HB4 : Hid (chk false o4096 = 0) := by unfold Hid; rw [ho4096.out]; exact chk_good (ones_good rfl)
  obtain ⟨⟨nf, lf⟩, hf⟩ : ∃ p : Bool × List Nat, p = wOf (1) := ⟨_, rfl⟩
  have HFf : Hid (∀ W, Calls Tryd.prog 8 #[.int .i64 (1)] W (WRes1 (nf, lf) W)) := fun W => by rw [hf]; exact from_any (1) W (by omega) (by omega)
  have HE3 : Hid (addS false o4096 nf lf = ((false, []), 16)) := by unfold Hid; rw [ho4096.out]; have := ones_over (n := 4096) rfl; rw [← hf] at this; exact this
  obtain ⟨⟨nh, lh⟩, hh⟩ : ∃ p : Bool × List Nat, p = wOf (-1) := ⟨_, rfl⟩
  have HFh : Hid (∀ W, Calls Tryd.prog 8 #[.int .i64 (-1)] W (WRes1 (nh, lh) W)) := fun W => by rw [hh]; exact from_any (-1) W (by omega) (by omega)
  obtain ⟨⟨ni, li⟩, hi4⟩ : ∃ p : Bool × List Nat, addS false o4096 nh lh = (p, 0) := by
    rw [ho4096.out]; have := ones_under (n := 4096) rfl; rw [← hh] at this; exact this
  have HE4 := Lib.hid hi4
  obtain ⟨⟨nf5, lf5⟩, hf5⟩ : ∃ p : Bool × List Nat, p = wOf (1) := ⟨_, rfl⟩
  have HFf5 : Hid (∀ W, Calls Tryd.prog 8 #[.int .i64 (1)] W (WRes1 (nf5, lf5) W)) := fun W => by rw [hf5]; exact from_any (1) W (by omega) (by omega)
  have HE5 : Hid (dmS nf5 lf5 false [] = ((false, []), (false, []), 18)) := by obtain ⟨rfl, rfl⟩ := Prod.mk.inj hf5; rfl
  have HE6 : Hid (mulS false [0] false [] = ((false, []), 8)) := rfl
  have HE7 : Hid (shS false [] 131073 = ((false, []), 2)) := shS_arg rfl (by omega)
  have HE8 : Hid (powS false [] 1001 = ((false, []), 2)) := powS_arg rfl (by omega)
  obtain ⟨⟨nj, lj⟩, hj⟩ : ∃ p : Bool × List Nat, p = wOf (-1) := ⟨_, rfl⟩
  have HFj : Hid (∀ W, Calls Tryd.prog 8 #[.int .i64 (-1)] W (WRes1 (nj, lj) W)) := fun W => by rw [hj]; exact from_any (-1) W (by omega) (by omega)
  have HE9 : Hid (sqrtS nj lj = ((false, []), 2)) := by obtain ⟨rfl, rfl⟩ := Prod.mk.inj hj; rfl
  have HE10 : Hid (parseS [48, 48, 55] = ((false, []), 12)) := Lib.hid (by decide)
  have HE11 : Hid (parseS [43, 49] = ((false, []), 12)) := Lib.hid (by decide)
  have HE12 : Hid (parseS [] = ((false, []), 12)) := Lib.hid (by decide)
  have HE13 : Hid (parseS [45, 48] = ((false, []), 12)) := Lib.hid (by decide)
  have HE14 : Hid (intS true [0, 2147483648] = (-9223372036854775808, 0)) := Lib.hid (by decide)
  have HE15 : Hid (intS false [0, 2147483648] = (0, 16)) := Lib.hid (by decide)
  obtain ⟨⟨np, lp⟩, hp⟩ : ∃ p : Bool × List Nat, p = wOf (1) := ⟨_, rfl⟩
  have HE16 : Hid (powS false [] 0 = ((np, lp), 0)) := by rw [hp]; rfl
  obtain ⟨⟨nx, lx⟩, hx⟩ : ∃ p : Bool × List Nat, p = wOf (0) := ⟨_, rfl⟩
  have HE17 : Hid (gcdS false [] false [] = ((nx, lx), 0)) := by rw [hx]; rfl
  obtain ⟨⟨ns, ls⟩, hs⟩ : ∃ p : Bool × List Nat, p = wOf (0) := ⟨_, rfl⟩
  have HE18 : Hid (shS false o4096 (-131072) = ((ns, ls), 0)) := by unfold Hid; rw [hs, ho4096.out]; exact ones_shift (k := 131072) rfl rfl
  obtain ⟨⟨nq, lq⟩, hq⟩ : ∃ p : Bool × List Nat, p = wOf (-1) := ⟨_, rfl⟩
  have HFq : Hid (∀ W, Calls Tryd.prog 8 #[.int .i64 (-1)] W (WRes1 (nq, lq) W)) := fun W => by rw [hq]; exact from_any (-1) W (by omega) (by omega)
  obtain ⟨⟨nu, lu⟩, hu⟩ : ∃ p : Bool × List Nat, p = wOf (-1) := ⟨_, rfl⟩
  have HE19 : Hid (shS nq lq (-131072) = ((nu, lu), 0)) := by unfold Hid; rw [hu]; have := minus_shift (k := 131072) rfl; rw [← hq] at this ⊢; exact this
  go_enter Tryd.func3, Tryd.ntmps3
  go_wp2_with fail
  refine (whole_any true none 0 0 _).mono ?_
  rintro e w1 ⟨rfl, hb⟩
  have Kz : Hid (Cw w1 w.heap.size false none 0 0) := Cw.keep (Cw.fresh (by simp) _ _ _ _ _) hb
  replace Sz : Hid (Sl w1 none ([] : List Nat) 0) := Sl.below (Sz.out.alloc _) hb
  replace B : Hid (Below w.heap.size w w1) := below_mono (below_mono B.out (blw1 _ _)) hb
  clear hb
  obtain ⟨qz0, qz1⟩ := Kz.out
  have hzz : w.heap.size < w1.heap.size := lt_of_cell (a := ⟨w.heap.size, 0, none⟩) Kz.out.1
  go_wp2_with fail
  refine (wcheck_any true none [] 0 _ (Sl.nil _ _ _)).mono ?_
  rw [HB1.out]
  rintro e w2 ⟨rfl, hb⟩
  clear qz0 qz1
  replace Kz : Hid (Cw w2 w.heap.size false none 0 0) := Cw.keep Kz.out hb
  replace Sz : Hid (Sl w2 none ([] : List Nat) 0) := Sl.below Sz.out hb
  replace B : Hid (Below w.heap.size w w2) := below_mono B.out hb
  clear hb
  obtain ⟨qz0, qz1⟩ := Kz.out
  replace hzz : w.heap.size < w2.heap.size := lt_of_cell (a := ⟨w.heap.size, 0, none⟩) Kz.out.1
  go_wp2_with fail
  refine (whole_any false (some ⟨w2.heap.size, 0, none⟩) 2 2 _).mono ?_
  rintro e w3 ⟨rfl, hb⟩
  have hb0 := Lib.hid hb
  clear qz0 qz1
  replace Kz : Hid (Cw w3 w.heap.size false none 0 0) := Cw.keep (Cw.keep Kz.out (blw1 _ _)) hb
  replace Sz : Hid (Sl w3 none ([] : List Nat) 0) := Sl.below (Sz.out.alloc _) hb
  replace B : Hid (Below w.heap.size w w3) := below_mono (below_mono B.out (blw1 _ _)) hb
  clear hb
  replace hzz : w.heap.size < w3.heap.size := lt_of_cell (a := ⟨w.heap.size, 0, none⟩) Kz.out.1
  have Sb : Hid (Sl w3 (some ⟨w2.heap.size, 0, none⟩) [1, 0] 2) := Lib.hid (Sl.below (lit_sl _ [1, 0] rfl (by simp) (by decide) (by simp)) hb0.out)
  go_wp2_with fail
  refine (wcheck_any false _ [1, 0] 2 _ Sb.out).mono ?_
  rw [HB2.out]
  rintro e w4 ⟨rfl, hb⟩
  replace Kz : Hid (Cw w4 w.heap.size false none 0 0) := Cw.keep Kz.out hb
  replace Sz : Hid (Sl w4 none ([] : List Nat) 0) := Sl.below Sz.out hb
  replace Sb : Hid (Sl w4 (some ⟨w2.heap.size, 0, none⟩) [1, 0] 2) := Sl.below Sb.out hb
  replace B : Hid (Below w.heap.size w w4) := below_mono B.out hb
  clear hb
  replace hzz : w.heap.size < w4.heap.size := lt_of_cell (a := ⟨w.heap.size, 0, none⟩) Kz.out.1
  clear Sb
  go_wp2_with fail
  refine (HO4097.out _).mono ?_
  rintro e w5 ⟨A5, c5, rfl, hs5, hb⟩
  replace Kz : Hid (Cw w5 w.heap.size false none 0 0) := Cw.keep Kz.out hb
  replace Sz : Hid (Sl w5 none ([] : List Nat) 0) := Sl.below Sz.out hb
  replace B : Hid (Below w.heap.size w w5) := below_mono B.out hb
  clear hb
  have Sc : Hid (Sl w5 A5 o4097 c5) := hs5
  clear hs5
  (try dsimp only)
  replace hzz : w.heap.size < w5.heap.size := lt_of_cell (a := ⟨w.heap.size, 0, none⟩) Kz.out.1
  go_wp2_with fail
  refine (wcheck_any false _ o4097 _ _ Sc.out).mono ?_
  rw [HB3.out]
  rintro e w6 ⟨rfl, hb⟩
  replace Kz : Hid (Cw w6 w.heap.size false none 0 0) := Cw.keep Kz.out hb
  replace Sz : Hid (Sl w6 none ([] : List Nat) 0) := Sl.below Sz.out hb
  replace Sc : Hid (Sl w6 A5 o4097 c5) := Sl.below Sc.out hb
  replace B : Hid (Below w.heap.size w w6) := below_mono B.out hb
  clear hb
  replace hzz : w.heap.size < w6.heap.size := lt_of_cell (a := ⟨w.heap.size, 0, none⟩) Kz.out.1
  clear Sc
  go_wp2_with fail
  refine (HO4096.out _).mono ?_
  rintro e w7 ⟨A7, c7, rfl, hs7, hb⟩
  replace Kz : Hid (Cw w7 w.heap.size false none 0 0) := Cw.keep Kz.out hb
  replace Sz : Hid (Sl w7 none ([] : List Nat) 0) := Sl.below Sz.out hb
  replace B : Hid (Below w.heap.size w w7) := below_mono B.out hb
  clear hb
  have Sd : Hid (Sl w7 A7 o4096 c7) := hs7
  clear hs7
  (try dsimp only)
  replace hzz : w.heap.size < w7.heap.size := lt_of_cell (a := ⟨w.heap.size, 0, none⟩) Kz.out.1
  go_wp2_with fail
  refine (wcheck_any false _ o4096 _ _ Sd.out).mono ?_
  rw [HB4.out]
  rintro e w8 ⟨rfl, hb⟩
  replace Kz : Hid (Cw w8 w.heap.size false none 0 0) := Cw.keep Kz.out hb
  replace Sz : Hid (Sl w8 none ([] : List Nat) 0) := Sl.below Sz.out hb
  replace Sd : Hid (Sl w8 A7 o4096 c7) := Sl.below Sd.out hb
  replace B : Hid (Below w.heap.size w w8) := below_mono B.out hb
  clear hb
  replace hzz : w.heap.size < w8.heap.size := lt_of_cell (a := ⟨w.heap.size, 0, none⟩) Kz.out.1
  clear Sd
  obtain ⟨qz0, qz1⟩ := Kz.out
  go_wp2_with fail
  refine (wcheck_any false none [] 0 _ Sz.out).mono ?_
  rw [HB0.out]
  rintro e w9 ⟨rfl, hb⟩
  clear qz0 qz1
  replace Kz : Hid (Cw w9 w.heap.size false none 0 0) := Cw.keep Kz.out hb
  replace Sz : Hid (Sl w9 none ([] : List Nat) 0) := Sl.below Sz.out hb
  replace B : Hid (Below w.heap.size w w9) := below_mono B.out hb
  clear hb
  replace hzz : w.heap.size < w9.heap.size := lt_of_cell (a := ⟨w.heap.size, 0, none⟩) Kz.out.1
  go_wp2_with fail
  refine (HO4096.out _).mono ?_
  rintro e w10 ⟨A10, c10, rfl, hs10, hb⟩
  replace Kz : Hid (Cw w10 w.heap.size false none 0 0) := Cw.keep Kz.out hb
  replace Sz : Hid (Sl w10 none ([] : List Nat) 0) := Sl.below Sz.out hb
  replace B : Hid (Below w.heap.size w w10) := below_mono B.out hb
  clear hb
  have Se : Hid (Sl w10 A10 o4096 c10) := hs10
  clear hs10
  (try dsimp only)
  replace hzz : w.heap.size < w10.heap.size := lt_of_cell (a := ⟨w.heap.size, 0, none⟩) Kz.out.1
  go_wp2_with fail
  refine (HFf.out _).mono ?_
  rintro e w11 ⟨A11, c11, rfl, hs11, hb⟩
  replace Kz : Hid (Cw w11 w.heap.size false none 0 0) := Cw.keep Kz.out hb
  replace Sz : Hid (Sl w11 none ([] : List Nat) 0) := Sl.below Sz.out hb
  replace Se : Hid (Sl w11 A10 o4096 c10) := Sl.below Se.out hb
  replace B : Hid (Below w.heap.size w w11) := below_mono B.out hb
  clear hb
  have Sf : Hid (Sl w11 A11 lf c11) := hs11
  clear hs11
  (try dsimp only)
  replace hzz : w.heap.size < w11.heap.size := lt_of_cell (a := ⟨w.heap.size, 0, none⟩) Kz.out.1
  go_wp2_with fail
  refine (wadd_any _ _ _ _ _ _ _ _ _ Se.out Sf.out).mono ?_
  rw [HE3.out]
  rintro e w12 ⟨A12, c12, rfl, _, hb⟩
  replace Kz : Hid (Cw w12 w.heap.size false none 0 0) := Cw.keep Kz.out hb
  replace Sz : Hid (Sl w12 none ([] : List Nat) 0) := Sl.below Sz.out hb
  replace Se : Hid (Sl w12 A10 o4096 c10) := Sl.below Se.out hb
  replace Sf : Hid (Sl w12 A11 lf c11) := Sl.below Sf.out hb
  replace B : Hid (Below w.heap.size w w12) := below_mono B.out hb
  clear hb
  (try dsimp only)
  replace hzz : w.heap.size < w12.heap.size := lt_of_cell (a := ⟨w.heap.size, 0, none⟩) Kz.out.1
  clear Se
  clear Sf
  go_wp2_with fail
  refine (HO4096.out _).mono ?_
  rintro e w13 ⟨A13, c13, rfl, hs13, hb⟩
  replace Kz : Hid (Cw w13 w.heap.size false none 0 0) := Cw.keep (Cw.keep Kz.out (blw1 _ _)) hb
  replace Sz : Hid (Sl w13 none ([] : List Nat) 0) := Sl.below (Sz.out.alloc _) hb
  replace B : Hid (Below w.heap.size w w13) := below_mono (below_mono B.out (blw1 _ _)) hb
  clear hb
  have Sg : Hid (Sl w13 A13 o4096 c13) := hs13
  clear hs13
  (try dsimp only)
  replace hzz : w.heap.size < w13.heap.size := lt_of_cell (a := ⟨w.heap.size, 0, none⟩) Kz.out.1
  go_wp2_with fail
  refine (HFh.out _).mono ?_
  rintro e w14 ⟨A14, c14, rfl, hs14, hb⟩
  replace Kz : Hid (Cw w14 w.heap.size false none 0 0) := Cw.keep Kz.out hb
  replace Sz : Hid (Sl w14 none ([] : List Nat) 0) := Sl.below Sz.out hb
  replace Sg : Hid (Sl w14 A13 o4096 c13) := Sl.below Sg.out hb
  replace B : Hid (Below w.heap.size w w14) := below_mono B.out hb
  clear hb
  have Sh : Hid (Sl w14 A14 lh c14) := hs14
  clear hs14
  (try dsimp only)
  replace hzz : w.heap.size < w14.heap.size := lt_of_cell (a := ⟨w.heap.size, 0, none⟩) Kz.out.1
  go_wp2_with fail
  refine (wadd_any _ _ _ _ _ _ _ _ _ Sg.out Sh.out).mono ?_
  rw [HE4.out]
  rintro e w15 ⟨A15, c15, rfl, hs15, hb⟩
  replace Kz : Hid (Cw w15 w.heap.size false none 0 0) := Cw.keep Kz.out hb
  replace Sz : Hid (Sl w15 none ([] : List Nat) 0) := Sl.below Sz.out hb
  replace Sg : Hid (Sl w15 A13 o4096 c13) := Sl.below Sg.out hb
  replace Sh : Hid (Sl w15 A14 lh c14) := Sl.below Sh.out hb
  replace B : Hid (Below w.heap.size w w15) := below_mono B.out hb
  clear hb
  have Si : Hid (Sl w15 A15 li c15) := hs15
  clear hs15
  (try dsimp only)
  replace hzz : w.heap.size < w15.heap.size := lt_of_cell (a := ⟨w.heap.size, 0, none⟩) Kz.out.1
  clear Sg
  clear Sh
  go_upto_region 5 with fail
  clear Si
  replace Kz : Hid (Cw (w15.alloc (.cells #[.bool ni, .slice A15 li.length c15] 24)) w.heap.size false none 0 0) := (Cw.keep Kz.out (blw1 _ _))
  replace Sz : Hid (Sl (w15.alloc (.cells #[.bool ni, .slice A15 li.length c15] 24)) none ([] : List Nat) 0) := Sl.nil _ _ _
  replace B : Hid (Below w.heap.size w (w15.alloc (.cells #[.bool ni, .slice A15 li.length c15] 24))) := (below_mono B.out (blw1 _ _))
  generalize (w15.alloc (.cells #[.bool ni, .slice A15 li.length c15] 24)) = X5 at *
  go_cut [9] from 76 to 82 (fun s9 wx => s9 = .int .i64 18 ∧ ZP X5 w.heap.size wx)
  case first =>
    have Z0 : Hid (ZP X5 w.heap.size X5) := ZP.start Kz.out
    obtain ⟨qz0, qz1⟩ := Kz.out
    have hzX : w.heap.size < X5.heap.size := Z0.out.lt
    go_region_held3 (fun w' => w'.cell? ⟨w.heap.size, 0, none⟩ = some (.bool false) ∧ w'.cell? ⟨w.heap.size, 1, none⟩ = some (.slice none 0 0))
      (first | (with_reducible refine ZP.c (X := X5) ?_; ((repeat (first | with_reducible exact Z2.out | with_reducible refine ZP.alloc ?_ _ | with_reducible refine ZP.drew ?_ | (with_reducible refine ZP.setW ?_ ?_ _ _; rotate_left; (first | omega | (simp; omega))))) <;> fail)) | (with_reducible refine ZP.c (X := X5) ?_; ((repeat (first | with_reducible exact Z1.out | with_reducible refine ZP.alloc ?_ _ | with_reducible refine ZP.drew ?_ | (with_reducible refine ZP.setW ?_ ?_ _ _; rotate_left; (first | omega | (simp; omega))))) <;> fail)) | (with_reducible refine ZP.c (X := X5) ?_; ((repeat (first | with_reducible exact Z0.out | with_reducible refine ZP.alloc ?_ _ | with_reducible refine ZP.drew ?_ | (with_reducible refine ZP.setW ?_ ?_ _ _; rotate_left; (first | omega | (simp; omega))))) <;> fail)))
      (first
        | (go_at_call 8; (with_reducible refine (HFf5.out X5.drew).mono ?_); rintro e v1 ⟨A70, c70, rfl, hs70, hb70⟩; (try dsimp only at hs70); (try dsimp only); have S70 := Lib.hid hs70; have Z1 := Lib.hid (ZP.keep Z0.out.drew hb70); have hle1 : X5.heap.size ≤ v1.heap.size := Z1.out.b.size)
        | (go_at_call 8; (with_reducible refine (HFf5.out (X5.alloc (.cells #[.bool false, .slice none 0 0] 24)).drew).mono ?_); rintro e v1 ⟨A70, c70, rfl, hs70, hb70⟩; (try dsimp only at hs70); (try dsimp only); have S70 := Lib.hid hs70; have Kp := Lib.hid (Cw.keep (Cw.drew (Cw.fresh (w := X5) (g := X5.heap.size) rfl false none 0 0 24)) hb70); have Fp := Lib.hid (Fw.keep (Fw.drew (Fw.fresh (w := X5) (g := X5.heap.size) rfl _ 24)) (Cw.drew (Cw.fresh (w := X5) (g := X5.heap.size) rfl false none 0 0 24)) hb70); have lp0 := lt_of_cell Kp.out.1; (try dsimp only at lp0); have Z1 := Lib.hid (ZP.keep (Z0.out.alloc (.cells #[.bool false, .slice none 0 0] 24)).drew hb70); have hle1 : X5.heap.size ≤ v1.heap.size := Z1.out.b.size)
        | (go_at_call 8; (with_reducible refine (HFf5.out ((X5.alloc (.cells #[.bool false, .slice none 0 0] 24)).alloc (.cells #[.bool false, .slice none 0 0] 24)).drew).mono ?_); rintro e v1 ⟨A70, c70, rfl, hs70, hb70⟩; (try dsimp only at hs70); (try dsimp only); have S70 := Lib.hid hs70; have Kp := Lib.hid (Cw.keep (Cw.drew (Cw.keep (Cw.fresh (w := X5) (g := X5.heap.size) rfl false none 0 0 24) (blw1 _ (.cells #[.bool false, .slice none 0 0] 24)))) hb70); have Fp := Lib.hid (Fw.keep (Fw.drew (Fw.keep (Fw.fresh (w := X5) (g := X5.heap.size) rfl _ 24) (Cw.fresh (w := X5) (g := X5.heap.size) rfl false none 0 0 24) (blw1 _ (.cells #[.bool false, .slice none 0 0] 24)))) (Cw.drew (Cw.keep (Cw.fresh (w := X5) (g := X5.heap.size) rfl false none 0 0 24) (blw1 _ (.cells #[.bool false, .slice none 0 0] 24)))) hb70); have lp0 := lt_of_cell Kp.out.1; (try dsimp only at lp0); have Kr := Lib.hid (Cw.keep (Cw.drew (Cw.fresh (w := (X5.alloc (.cells #[.bool false, .slice none 0 0] 24))) (g := (X5.heap.size + 1)) (by simp) false none 0 0 24)) hb70); have Fr := Lib.hid (Fw.keep (Fw.drew (Fw.fresh (w := (X5.alloc (.cells #[.bool false, .slice none 0 0] 24))) (g := (X5.heap.size + 1)) (by simp) _ 24)) (Cw.drew (Cw.fresh (w := (X5.alloc (.cells #[.bool false, .slice none 0 0] 24))) (g := (X5.heap.size + 1)) (by simp) false none 0 0 24)) hb70); have lr0 := lt_of_cell Kr.out.1; (try dsimp only at lr0); have Z1 := Lib.hid (ZP.keep ((Z0.out.alloc (.cells #[.bool false, .slice none 0 0] 24)).alloc (.cells #[.bool false, .slice none 0 0] 24)).drew hb70); have hle1 : X5.heap.size ≤ v1.heap.size := Z1.out.b.size)
        | (go_at_call 9; refine (wdivmod_any nf5 false A70 none lf5 [] c70 0 v1 S70.out (Sl.nil _ _ _)).mono ?_; rw [HE5.out]; rintro e v2 ⟨A71, c71, B71, d71, rfl, _, _, hb71⟩; (try dsimp only); (try (have Kp' := Lib.hid (Cw.keep Kp.out hb71); have Fp' := Lib.hid (Fw.keep Fp.out Kp.out hb71); obtain ⟨qpa, qpb⟩ := Kp'.out; obtain ⟨qpc, qpd⟩ := Fp'.out; have qpl := lt_of_cell qpa; (try dsimp only at qpl))); (try (have Kr' := Lib.hid (Cw.keep Kr.out hb71); have Fr' := Lib.hid (Fw.keep Fr.out Kr.out hb71); obtain ⟨qra, qrb⟩ := Kr'.out; obtain ⟨qrc, qrd⟩ := Fr'.out; have qrl := lt_of_cell qra; (try dsimp only at qrl))); have Z2 := Lib.hid (ZP.keep Z1.out hb71); have hle2 : X5.heap.size ≤ v2.heap.size := Z2.out.b.size)
        | (go_at_call 9; refine (wdivmod_any nf5 false A70 none lf5 [] c70 0 (v1.alloc (.cells #[.bool false, .slice none 0 0] 24)) (S70.out.alloc (.cells #[.bool false, .slice none 0 0] 24)) (Sl.nil _ _ _)).mono ?_; rw [HE5.out]; rintro e v2 ⟨A71, c71, B71, d71, rfl, _, _, hb71⟩; (try dsimp only); (try (have Kp' := Lib.hid (Cw.keep (Cw.keep Kp.out (blw1 _ (.cells #[.bool false, .slice none 0 0] 24))) hb71); have Fp' := Lib.hid (Fw.keep (Fw.keep Fp.out Kp.out (blw1 _ (.cells #[.bool false, .slice none 0 0] 24))) (Cw.keep Kp.out (blw1 _ (.cells #[.bool false, .slice none 0 0] 24))) hb71); obtain ⟨qpa, qpb⟩ := Kp'.out; obtain ⟨qpc, qpd⟩ := Fp'.out; have qpl := lt_of_cell qpa; (try dsimp only at qpl))); have Ks := Lib.hid (Cw.keep (Cw.fresh (w := v1) (g := v1.heap.size) rfl false none 0 0 24) hb71); have Fs := Lib.hid (Fw.keep (Fw.fresh (w := v1) (g := v1.heap.size) rfl _ 24) (Cw.fresh (w := v1) (g := v1.heap.size) rfl false none 0 0 24) hb71); have ls0 := lt_of_cell Ks.out.1; (try dsimp only at ls0); obtain ⟨qsa, qsb⟩ := Ks.out; obtain ⟨qsc, qsd⟩ := Fs.out; have qsl := lt_of_cell qsa; (try dsimp only at qsl); have Z2 := Lib.hid (ZP.keep (Z1.out.alloc (.cells #[.bool false, .slice none 0 0] 24)) hb71); have hle2 : X5.heap.size ≤ v2.heap.size := Z2.out.b.size)
        | (go_at_call 9; refine (wdivmod_any nf5 false A70 none lf5 [] c70 0 ((v1.alloc (.cells #[.bool false, .slice none 0 0] 24)).alloc (.cells #[.bool false, .slice none 0 0] 24)) ((S70.out.alloc (.cells #[.bool false, .slice none 0 0] 24)).alloc (.cells #[.bool false, .slice none 0 0] 24)) (Sl.nil _ _ _)).mono ?_; rw [HE5.out]; rintro e v2 ⟨A71, c71, B71, d71, rfl, _, _, hb71⟩; (try dsimp only); have Ks := Lib.hid (Cw.keep (Cw.keep (Cw.fresh (w := v1) (g := v1.heap.size) rfl false none 0 0 24) (blw1 _ (.cells #[.bool false, .slice none 0 0] 24))) hb71); have Fs := Lib.hid (Fw.keep (Fw.keep (Fw.fresh (w := v1) (g := v1.heap.size) rfl _ 24) (Cw.fresh (w := v1) (g := v1.heap.size) rfl false none 0 0 24) (blw1 _ (.cells #[.bool false, .slice none 0 0] 24))) (Cw.keep (Cw.fresh (w := v1) (g := v1.heap.size) rfl false none 0 0 24) (blw1 _ (.cells #[.bool false, .slice none 0 0] 24))) hb71); have ls0 := lt_of_cell Ks.out.1; (try dsimp only at ls0); obtain ⟨qsa, qsb⟩ := Ks.out; obtain ⟨qsc, qsd⟩ := Fs.out; have qsl := lt_of_cell qsa; (try dsimp only at qsl); have Kt := Lib.hid (Cw.keep (Cw.fresh (w := (v1.alloc (.cells #[.bool false, .slice none 0 0] 24))) (g := (v1.heap.size + 1)) (by simp) false none 0 0 24) hb71); have Ft := Lib.hid (Fw.keep (Fw.fresh (w := (v1.alloc (.cells #[.bool false, .slice none 0 0] 24))) (g := (v1.heap.size + 1)) (by simp) _ 24) (Cw.fresh (w := (v1.alloc (.cells #[.bool false, .slice none 0 0] 24))) (g := (v1.heap.size + 1)) (by simp) false none 0 0 24) hb71); have lt0 := lt_of_cell Kt.out.1; (try dsimp only at lt0); obtain ⟨qta, qtb⟩ := Kt.out; obtain ⟨qtc, qtd⟩ := Ft.out; have qtl := lt_of_cell qta; (try dsimp only at qtl); have Z2 := Lib.hid (ZP.keep ((Z1.out.alloc (.cells #[.bool false, .slice none 0 0] 24)).alloc (.cells #[.bool false, .slice none 0 0] 24)) hb71); have hle2 : X5.heap.size ≤ v2.heap.size := Z2.out.b.size)
        )
    all_goals
      go_wp2_with fail
      go_meet
      exact ⟨rfl, by ((repeat (first | with_reducible exact Z2.out | with_reducible refine ZP.alloc ?_ _ | with_reducible refine ZP.drew ?_ | (with_reducible refine ZP.setW ?_ ?_ _ _; rotate_left; (first | omega | (simp; omega))))) <;> fail)⟩
  case rest =>
    obtain ⟨rfl, hzp⟩ := hcut
    have hb := hzp.b
    clear hzp
    replace Kz : Hid (Cw wc w.heap.size false none 0 0) := Cw.keep Kz.out hb
    replace Sz : Hid (Sl wc none ([] : List Nat) 0) := Sl.below Sz.out hb
    replace B : Hid (Below w.heap.size w wc) := below_mono B.out hb
    clear hb
    replace hzz : w.heap.size < wc.heap.size := lt_of_cell (a := ⟨w.heap.size, 0, none⟩) Kz.out.1
    go_upto_region 6 with fail
    replace Kz : Hid (Cw wc w.heap.size false none 0 0) := Kz.out
    replace Sz : Hid (Sl wc none ([] : List Nat) 0) := Sl.nil _ _ _
    replace B : Hid (Below w.heap.size w wc) := B.out
    generalize wc = X6 at *
    go_cut [11] from 83 to 89 (fun s11 wx => s11 = .int .i64 8 ∧ ZP X6 w.heap.size wx)
    case first =>
      have Z0 : Hid (ZP X6 w.heap.size X6) := ZP.start Kz.out
      obtain ⟨qz0, qz1⟩ := Kz.out
      have hzX : w.heap.size < X6.heap.size := Z0.out.lt
      go_region_held3 (fun w' => w'.cell? ⟨w.heap.size, 0, none⟩ = some (.bool false) ∧ w'.cell? ⟨w.heap.size, 1, none⟩ = some (.slice none 0 0))
        (first | (with_reducible refine ZP.c (X := X6) ?_; ((repeat (first | with_reducible exact Z2.out | with_reducible refine ZP.alloc ?_ _ | with_reducible refine ZP.drew ?_ | (with_reducible refine ZP.setW ?_ ?_ _ _; rotate_left; (first | omega | (simp; omega))))) <;> fail)) | (with_reducible refine ZP.c (X := X6) ?_; ((repeat (first | with_reducible exact Z1.out | with_reducible refine ZP.alloc ?_ _ | with_reducible refine ZP.drew ?_ | (with_reducible refine ZP.setW ?_ ?_ _ _; rotate_left; (first | omega | (simp; omega))))) <;> fail)) | (with_reducible refine ZP.c (X := X6) ?_; ((repeat (first | with_reducible exact Z0.out | with_reducible refine ZP.alloc ?_ _ | with_reducible refine ZP.drew ?_ | (with_reducible refine ZP.setW ?_ ?_ _ _; rotate_left; (first | omega | (simp; omega))))) <;> fail)))
        (first
          | (go_at_call 5; refine (whole_any false (some ⟨X6.heap.size, 0, none⟩) 1 1 (X6.alloc (.cells #[.int .u32 0] 28)).drew).mono ?_; rintro e v1 ⟨rfl, hb70⟩; have S70 : Hid (Sl v1 (some ⟨X6.heap.size, 0, none⟩) [0] 1) := Lib.hid (Sl.below (lit_sl X6 [0] (b := X6.heap.size) (n := 1) (e := 28) (cs := #[.int .u32 0]) rfl rfl (by decide) (by simp)).drew hb70); have Z1 := Lib.hid (ZP.keep (Z0.out.alloc (.cells #[.int .u32 0] 28)).drew hb70); have hle1 : X6.heap.size ≤ v1.heap.size := Z1.out.b.size)
          | (go_at_call 5; refine (whole_any false (some ⟨X6.heap.size, 0, none⟩) 1 1 ((X6.alloc (.cells #[.int .u32 0] 28)).alloc (.cells #[.bool false, .slice none 0 0] 24)).drew).mono ?_; rintro e v1 ⟨rfl, hb70⟩; have S70 : Hid (Sl v1 (some ⟨X6.heap.size, 0, none⟩) [0] 1) := Lib.hid (Sl.below ((lit_sl X6 [0] (b := X6.heap.size) (n := 1) (e := 28) (cs := #[.int .u32 0]) rfl rfl (by decide) (by simp)).alloc (.cells #[.bool false, .slice none 0 0] 24)).drew hb70); have Kp := Lib.hid (Cw.keep (Cw.drew (Cw.fresh (w := (X6.alloc (.cells #[.int .u32 0] 28))) (g := (X6.heap.size + 1)) (by simp) false none 0 0 24)) hb70); have Fp := Lib.hid (Fw.keep (Fw.drew (Fw.fresh (w := (X6.alloc (.cells #[.int .u32 0] 28))) (g := (X6.heap.size + 1)) (by simp) _ 24)) (Cw.drew (Cw.fresh (w := (X6.alloc (.cells #[.int .u32 0] 28))) (g := (X6.heap.size + 1)) (by simp) false none 0 0 24)) hb70); have lp0 := lt_of_cell Kp.out.1; (try dsimp only at lp0); have Z1 := Lib.hid (ZP.keep ((Z0.out.alloc (.cells #[.int .u32 0] 28)).alloc (.cells #[.bool false, .slice none 0 0] 24)).drew hb70); have hle1 : X6.heap.size ≤ v1.heap.size := Z1.out.b.size)
          | (go_at_call 5; refine (whole_any false (some ⟨X6.heap.size + 1, 0, none⟩) 1 1 ((X6.alloc (.cells #[.bool false, .slice none 0 0] 24)).alloc (.cells #[.int .u32 0] 28)).drew).mono ?_; rintro e v1 ⟨rfl, hb70⟩; have S70 : Hid (Sl v1 (some ⟨X6.heap.size + 1, 0, none⟩) [0] 1) := Lib.hid (Sl.below (lit_sl (X6.alloc (.cells #[.bool false, .slice none 0 0] 24)) [0] (b := X6.heap.size + 1) (n := 1) (e := 28) (cs := #[.int .u32 0]) rfl (by simp) (by decide) (by simp)).drew hb70); have Kp := Lib.hid (Cw.keep (Cw.drew (Cw.keep (Cw.fresh (w := X6) (g := X6.heap.size) rfl false none 0 0 24) (blw1 _ (.cells #[.int .u32 0] 28)))) hb70); have Fp := Lib.hid (Fw.keep (Fw.drew (Fw.keep (Fw.fresh (w := X6) (g := X6.heap.size) rfl _ 24) (Cw.fresh (w := X6) (g := X6.heap.size) rfl false none 0 0 24) (blw1 _ (.cells #[.int .u32 0] 28)))) (Cw.drew (Cw.keep (Cw.fresh (w := X6) (g := X6.heap.size) rfl false none 0 0 24) (blw1 _ (.cells #[.int .u32 0] 28)))) hb70); have lp0 := lt_of_cell Kp.out.1; (try dsimp only at lp0); have Z1 := Lib.hid (ZP.keep ((Z0.out.alloc (.cells #[.bool false, .slice none 0 0] 24)).alloc (.cells #[.int .u32 0] 28)).drew hb70); have hle1 : X6.heap.size ≤ v1.heap.size := Z1.out.b.size)
          | (go_at_call 10; refine (wmul_any false false (some ⟨X6.heap.size, 0, none⟩) none [0] [] 1 0 v1 S70.out (Sl.nil _ _ _)).mono ?_; rw [HE6.out]; rintro e v2 ⟨A71, c71, rfl, _, hb71⟩; (try dsimp only); (try (have Kp' := Lib.hid (Cw.keep Kp.out hb71); have Fp' := Lib.hid (Fw.keep Fp.out Kp.out hb71); obtain ⟨qpa, qpb⟩ := Kp'.out; obtain ⟨qpc, qpd⟩ := Fp'.out; have qpl := lt_of_cell qpa; (try dsimp only at qpl))); have Z2 := Lib.hid (ZP.keep Z1.out hb71); have hle2 : X6.heap.size ≤ v2.heap.size := Z2.out.b.size)
          | (go_at_call 10; refine (wmul_any false false (some ⟨X6.heap.size, 0, none⟩) none [0] [] 1 0 (v1.alloc (.cells #[.bool false, .slice none 0 0] 24)) (S70.out.alloc (.cells #[.bool false, .slice none 0 0] 24)) (Sl.nil _ _ _)).mono ?_; rw [HE6.out]; rintro e v2 ⟨A71, c71, rfl, _, hb71⟩; (try dsimp only); have Ks := Lib.hid (Cw.keep (Cw.fresh (w := v1) (g := v1.heap.size) rfl false none 0 0 24) hb71); have Fs := Lib.hid (Fw.keep (Fw.fresh (w := v1) (g := v1.heap.size) rfl _ 24) (Cw.fresh (w := v1) (g := v1.heap.size) rfl false none 0 0 24) hb71); have ls0 := lt_of_cell Ks.out.1; (try dsimp only at ls0); obtain ⟨qsa, qsb⟩ := Ks.out; obtain ⟨qsc, qsd⟩ := Fs.out; have qsl := lt_of_cell qsa; (try dsimp only at qsl); have Z2 := Lib.hid (ZP.keep (Z1.out.alloc (.cells #[.bool false, .slice none 0 0] 24)) hb71); have hle2 : X6.heap.size ≤ v2.heap.size := Z2.out.b.size)
          | (go_at_call 10; refine (wmul_any false false (some ⟨X6.heap.size + 1, 0, none⟩) none [0] [] 1 0 v1 S70.out (Sl.nil _ _ _)).mono ?_; rw [HE6.out]; rintro e v2 ⟨A71, c71, rfl, _, hb71⟩; (try dsimp only); (try (have Kp' := Lib.hid (Cw.keep Kp.out hb71); have Fp' := Lib.hid (Fw.keep Fp.out Kp.out hb71); obtain ⟨qpa, qpb⟩ := Kp'.out; obtain ⟨qpc, qpd⟩ := Fp'.out; have qpl := lt_of_cell qpa; (try dsimp only at qpl))); have Z2 := Lib.hid (ZP.keep Z1.out hb71); have hle2 : X6.heap.size ≤ v2.heap.size := Z2.out.b.size)
          | (go_at_call 10; refine (wmul_any false false (some ⟨X6.heap.size + 1, 0, none⟩) none [0] [] 1 0 (v1.alloc (.cells #[.bool false, .slice none 0 0] 24)) (S70.out.alloc (.cells #[.bool false, .slice none 0 0] 24)) (Sl.nil _ _ _)).mono ?_; rw [HE6.out]; rintro e v2 ⟨A71, c71, rfl, _, hb71⟩; (try dsimp only); have Ks := Lib.hid (Cw.keep (Cw.fresh (w := v1) (g := v1.heap.size) rfl false none 0 0 24) hb71); have Fs := Lib.hid (Fw.keep (Fw.fresh (w := v1) (g := v1.heap.size) rfl _ 24) (Cw.fresh (w := v1) (g := v1.heap.size) rfl false none 0 0 24) hb71); have ls0 := lt_of_cell Ks.out.1; (try dsimp only at ls0); obtain ⟨qsa, qsb⟩ := Ks.out; obtain ⟨qsc, qsd⟩ := Fs.out; have qsl := lt_of_cell qsa; (try dsimp only at qsl); have Z2 := Lib.hid (ZP.keep (Z1.out.alloc (.cells #[.bool false, .slice none 0 0] 24)) hb71); have hle2 : X6.heap.size ≤ v2.heap.size := Z2.out.b.size)
          )
      all_goals
        go_wp2_with fail
        go_meet
        exact ⟨rfl, by ((repeat (first | with_reducible exact Z2.out | with_reducible refine ZP.alloc ?_ _ | with_reducible refine ZP.drew ?_ | (with_reducible refine ZP.setW ?_ ?_ _ _; rotate_left; (first | omega | (simp; omega))))) <;> fail)⟩
    case rest =>
      obtain ⟨rfl, hzp⟩ := hcut
      have hb := hzp.b
      clear hzp
      replace Kz : Hid (Cw wc w.heap.size false none 0 0) := Cw.keep Kz.out hb
      replace Sz : Hid (Sl wc none ([] : List Nat) 0) := Sl.below Sz.out hb
      replace B : Hid (Below w.heap.size w wc) := below_mono B.out hb
      clear hb
      replace hzz : w.heap.size < wc.heap.size := lt_of_cell (a := ⟨w.heap.size, 0, none⟩) Kz.out.1
      obtain ⟨qz0, qz1⟩ := Kz.out
      go_wp2_with fail
      refine (wshift_any false none [] 0 131073 _ Sz.out).mono ?_
      rw [HE7.out]
      rintro e w41 ⟨A41, c41, rfl, _, hb⟩
      clear qz0 qz1
      replace Kz : Hid (Cw w41 w.heap.size false none 0 0) := Cw.keep Kz.out hb
      replace Sz : Hid (Sl w41 none ([] : List Nat) 0) := Sl.below Sz.out hb
      replace B : Hid (Below w.heap.size w w41) := below_mono B.out hb
      clear hb
      (try dsimp only)
      replace hzz : w.heap.size < w41.heap.size := lt_of_cell (a := ⟨w.heap.size, 0, none⟩) Kz.out.1
      obtain ⟨qz0, qz1⟩ := Kz.out
      go_wp2_with fail
      refine (wpow_any false none [] 0 1001 _ (Sz.out.alloc _)).mono ?_
      rw [HE8.out]
      rintro e w42 ⟨A42, c42, rfl, _, hb⟩
      clear qz0 qz1
      replace Kz : Hid (Cw w42 w.heap.size false none 0 0) := Cw.keep (Cw.keep Kz.out (blw1 _ _)) hb
      replace Sz : Hid (Sl w42 none ([] : List Nat) 0) := Sl.below (Sz.out.alloc _) hb
      replace B : Hid (Below w.heap.size w w42) := below_mono (below_mono B.out (blw1 _ _)) hb
      clear hb
      (try dsimp only)
      replace hzz : w.heap.size < w42.heap.size := lt_of_cell (a := ⟨w.heap.size, 0, none⟩) Kz.out.1
      go_wp2_with fail
      refine (HFj.out _).mono ?_
      rintro e w43 ⟨A43, c43, rfl, hs43, hb⟩
      replace Kz : Hid (Cw w43 w.heap.size false none 0 0) := Cw.keep (Cw.keep Kz.out (blw1 _ _)) hb
      replace Sz : Hid (Sl w43 none ([] : List Nat) 0) := Sl.below (Sz.out.alloc _) hb
      replace B : Hid (Below w.heap.size w w43) := below_mono (below_mono B.out (blw1 _ _)) hb
      clear hb
      have Sj : Hid (Sl w43 A43 lj c43) := hs43
      clear hs43
      (try dsimp only)
      replace hzz : w.heap.size < w43.heap.size := lt_of_cell (a := ⟨w.heap.size, 0, none⟩) Kz.out.1
      go_wp2_with fail
      refine (wsqrt_any _ _ _ _ _ Sj.out).mono ?_
      rw [HE9.out]
      rintro e w44 ⟨A44, c44, rfl, _, hb⟩
      replace Kz : Hid (Cw w44 w.heap.size false none 0 0) := Cw.keep Kz.out hb
      replace Sz : Hid (Sl w44 none ([] : List Nat) 0) := Sl.below Sz.out hb
      replace Sj : Hid (Sl w44 A43 lj c43) := Sl.below Sj.out hb
      replace B : Hid (Below w.heap.size w w44) := below_mono B.out hb
      clear hb
      (try dsimp only)
      replace hzz : w.heap.size < w44.heap.size := lt_of_cell (a := ⟨w.heap.size, 0, none⟩) Kz.out.1
      clear Sj
      go_wp2_with fail
      refine (wparse_any [48, 48, 55] _ (by simp)).mono ?_
      rw [HE10.out]
      rintro e w45 ⟨A45, c45, rfl, _, hb⟩
      replace Kz : Hid (Cw w45 w.heap.size false none 0 0) := Cw.keep (Cw.keep Kz.out (blw1 _ _)) hb
      replace Sz : Hid (Sl w45 none ([] : List Nat) 0) := Sl.below (Sz.out.alloc _) hb
      replace B : Hid (Below w.heap.size w w45) := below_mono (below_mono B.out (blw1 _ _)) hb
      clear hb
      (try dsimp only)
      replace hzz : w.heap.size < w45.heap.size := lt_of_cell (a := ⟨w.heap.size, 0, none⟩) Kz.out.1
      go_wp2_with fail
      refine (wparse_any [43, 49] _ (by simp)).mono ?_
      rw [HE11.out]
      rintro e w46 ⟨A46, c46, rfl, _, hb⟩
      replace Kz : Hid (Cw w46 w.heap.size false none 0 0) := Cw.keep (Cw.keep Kz.out (blw1 _ _)) hb
      replace Sz : Hid (Sl w46 none ([] : List Nat) 0) := Sl.below (Sz.out.alloc _) hb
      replace B : Hid (Below w.heap.size w w46) := below_mono (below_mono B.out (blw1 _ _)) hb
      clear hb
      (try dsimp only)
      replace hzz : w.heap.size < w46.heap.size := lt_of_cell (a := ⟨w.heap.size, 0, none⟩) Kz.out.1
      go_wp2_with fail
      refine (wparse_any [] _ (by simp)).mono ?_
      rw [HE12.out]
      rintro e w47 ⟨A47, c47, rfl, _, hb⟩
      replace Kz : Hid (Cw w47 w.heap.size false none 0 0) := Cw.keep (Cw.keep Kz.out (blw1 _ _)) hb
      replace Sz : Hid (Sl w47 none ([] : List Nat) 0) := Sl.below (Sz.out.alloc _) hb
      replace B : Hid (Below w.heap.size w w47) := below_mono (below_mono B.out (blw1 _ _)) hb
      clear hb
      (try dsimp only)
      replace hzz : w.heap.size < w47.heap.size := lt_of_cell (a := ⟨w.heap.size, 0, none⟩) Kz.out.1
      go_wp2_with fail
      refine (wparse_any [45, 48] _ (by simp)).mono ?_
      rw [HE13.out]
      rintro e w48 ⟨A48, c48, rfl, _, hb⟩
      replace Kz : Hid (Cw w48 w.heap.size false none 0 0) := Cw.keep (Cw.keep Kz.out (blw1 _ _)) hb
      replace Sz : Hid (Sl w48 none ([] : List Nat) 0) := Sl.below (Sz.out.alloc _) hb
      replace B : Hid (Below w.heap.size w w48) := below_mono (below_mono B.out (blw1 _ _)) hb
      clear hb
      (try dsimp only)
      replace hzz : w.heap.size < w48.heap.size := lt_of_cell (a := ⟨w.heap.size, 0, none⟩) Kz.out.1
      go_wp2_with fail
      refine (whole_any true (some ⟨w48.heap.size + 1, 0, none⟩) 2 2 _).mono ?_
      rintro e w49 ⟨rfl, hb⟩
      have hb0 := Lib.hid hb
      replace Kz : Hid (Cw w49 w.heap.size false none 0 0) := Cw.keep (Cw.keep (Cw.keep Kz.out (blw1 _ _)) (blw1 _ _)) hb
      replace Sz : Hid (Sl w49 none ([] : List Nat) 0) := Sl.below ((Sz.out.alloc _).alloc _) hb
      replace B : Hid (Below w.heap.size w w49) := below_mono (below_mono (below_mono B.out (blw1 _ _)) (blw1 _ _)) hb
      clear hb
      replace hzz : w.heap.size < w49.heap.size := lt_of_cell (a := ⟨w.heap.size, 0, none⟩) Kz.out.1
      have Sk : Hid (Sl w49 (some ⟨w48.heap.size + 1, 0, none⟩) [0, 2147483648] 2) := Lib.hid (Sl.below (lit_sl _ [0, 2147483648] rfl (by simp) (by decide) (by simp)) hb0.out)
      go_wp2_with fail
      refine (int_any true _ [0, 2147483648] 2 _ Sk.out).mono ?_
      rw [HE14.out]
      rintro e w50 ⟨rfl, hb⟩
      replace Kz : Hid (Cw w50 w.heap.size false none 0 0) := Cw.keep Kz.out hb
      replace Sz : Hid (Sl w50 none ([] : List Nat) 0) := Sl.below Sz.out hb
      replace Sk : Hid (Sl w50 (some ⟨w48.heap.size + 1, 0, none⟩) [0, 2147483648] 2) := Sl.below Sk.out hb
      replace B : Hid (Below w.heap.size w w50) := below_mono B.out hb
      clear hb
      replace hzz : w.heap.size < w50.heap.size := lt_of_cell (a := ⟨w.heap.size, 0, none⟩) Kz.out.1
      clear Sk
      go_wp2_with fail
      refine (whole_any false (some ⟨w50.heap.size, 0, none⟩) 2 2 _).mono ?_
      rintro e w51 ⟨rfl, hb⟩
      have hb0 := Lib.hid hb
      replace Kz : Hid (Cw w51 w.heap.size false none 0 0) := Cw.keep (Cw.keep Kz.out (blw1 _ _)) hb
      replace Sz : Hid (Sl w51 none ([] : List Nat) 0) := Sl.below (Sz.out.alloc _) hb
      replace B : Hid (Below w.heap.size w w51) := below_mono (below_mono B.out (blw1 _ _)) hb
      clear hb
      replace hzz : w.heap.size < w51.heap.size := lt_of_cell (a := ⟨w.heap.size, 0, none⟩) Kz.out.1
      have Sy : Hid (Sl w51 (some ⟨w50.heap.size, 0, none⟩) [0, 2147483648] 2) := Lib.hid (Sl.below (lit_sl _ [0, 2147483648] rfl (by simp) (by decide) (by simp)) hb0.out)
      go_wp2_with fail
      refine (int_any false _ [0, 2147483648] 2 _ Sy.out).mono ?_
      rw [HE15.out]
      rintro e w52 ⟨rfl, hb⟩
      replace Kz : Hid (Cw w52 w.heap.size false none 0 0) := Cw.keep Kz.out hb
      replace Sz : Hid (Sl w52 none ([] : List Nat) 0) := Sl.below Sz.out hb
      replace Sy : Hid (Sl w52 (some ⟨w50.heap.size, 0, none⟩) [0, 2147483648] 2) := Sl.below Sy.out hb
      replace B : Hid (Below w.heap.size w w52) := below_mono B.out hb
      clear hb
      replace hzz : w.heap.size < w52.heap.size := lt_of_cell (a := ⟨w.heap.size, 0, none⟩) Kz.out.1
      clear Sy
      obtain ⟨qz0, qz1⟩ := Kz.out
      go_wp2_with fail
      refine (wpow_any false none [] 0 0 _ Sz.out).mono ?_
      rw [HE16.out]
      rintro e w53 ⟨A53, c53, rfl, hs53, hb⟩
      clear qz0 qz1
      replace Kz : Hid (Cw w53 w.heap.size false none 0 0) := Cw.keep Kz.out hb
      replace Sz : Hid (Sl w53 none ([] : List Nat) 0) := Sl.below Sz.out hb
      replace B : Hid (Below w.heap.size w w53) := below_mono B.out hb
      clear hb
      have Sp : Hid (Sl w53 A53 lp c53) := hs53
      clear hs53
      (try dsimp only)
      replace hzz : w.heap.size < w53.heap.size := lt_of_cell (a := ⟨w.heap.size, 0, none⟩) Kz.out.1
      obtain ⟨qz0, qz1⟩ := Kz.out
      go_wp2_with fail
      refine (wgcd_any false false none none [] [] 0 0 _ (Sz.out.alloc _) (Sz.out.alloc _)).mono ?_
      rw [HE17.out]
      rintro e w54 ⟨A54, c54, rfl, hs54, hb⟩
      clear qz0 qz1
      replace Kz : Hid (Cw w54 w.heap.size false none 0 0) := Cw.keep (Cw.keep Kz.out (blw1 _ _)) hb
      have Kp : Hid (Cw w54 w53.heap.size np A53 lp.length c53) := Cw.keep (Cw.fresh (by simp) _ _ _ _ _) hb
      replace Sz : Hid (Sl w54 none ([] : List Nat) 0) := Sl.below (Sz.out.alloc _) hb
      replace Sp : Hid (Sl w54 A53 lp c53) := Sl.below (Sp.out.alloc _) hb
      replace B : Hid (Below w.heap.size w w54) := below_mono (below_mono B.out (blw1 _ _)) hb
      clear hb
      have Sx : Hid (Sl w54 A54 lx c54) := hs54
      clear hs54
      (try dsimp only)
      replace hzz : w.heap.size < w54.heap.size := lt_of_cell (a := ⟨w.heap.size, 0, none⟩) Kz.out.1
      have hzp : w53.heap.size < w54.heap.size := lt_of_cell (a := ⟨w53.heap.size, 0, none⟩) Kp.out.1
      go_wp2_with fail
      refine (HO4096.out _).mono ?_
      rintro e w55 ⟨A55, c55, rfl, hs55, hb⟩
      replace Kz : Hid (Cw w55 w.heap.size false none 0 0) := Cw.keep (Cw.keep Kz.out (blw1 _ _)) hb
      replace Kp : Hid (Cw w55 w53.heap.size np A53 lp.length c53) := Cw.keep (Cw.keep Kp.out (blw1 _ _)) hb
      have Kx : Hid (Cw w55 w54.heap.size nx A54 lx.length c54) := Cw.keep (Cw.fresh (by simp) _ _ _ _ _) hb
      replace Sz : Hid (Sl w55 none ([] : List Nat) 0) := Sl.below (Sz.out.alloc _) hb
      replace Sp : Hid (Sl w55 A53 lp c53) := Sl.below (Sp.out.alloc _) hb
      replace Sx : Hid (Sl w55 A54 lx c54) := Sl.below (Sx.out.alloc _) hb
      replace B : Hid (Below w.heap.size w w55) := below_mono (below_mono B.out (blw1 _ _)) hb
      clear hb
      have Sm : Hid (Sl w55 A55 o4096 c55) := hs55
      clear hs55
      (try dsimp only)
      replace hzz : w.heap.size < w55.heap.size := lt_of_cell (a := ⟨w.heap.size, 0, none⟩) Kz.out.1
      replace hzp : w53.heap.size < w55.heap.size := lt_of_cell (a := ⟨w53.heap.size, 0, none⟩) Kp.out.1
      have hzx : w54.heap.size < w55.heap.size := lt_of_cell (a := ⟨w54.heap.size, 0, none⟩) Kx.out.1
      go_wp2_with fail
      refine (wshift_any false _ o4096 _ (-131072) _ Sm.out).mono ?_
      rw [HE18.out]
      rintro e w56 ⟨A56, c56, rfl, hs56, hb⟩
      replace Kz : Hid (Cw w56 w.heap.size false none 0 0) := Cw.keep Kz.out hb
      replace Kp : Hid (Cw w56 w53.heap.size np A53 lp.length c53) := Cw.keep Kp.out hb
      replace Kx : Hid (Cw w56 w54.heap.size nx A54 lx.length c54) := Cw.keep Kx.out hb
      replace Sz : Hid (Sl w56 none ([] : List Nat) 0) := Sl.below Sz.out hb
      replace Sp : Hid (Sl w56 A53 lp c53) := Sl.below Sp.out hb
      replace Sx : Hid (Sl w56 A54 lx c54) := Sl.below Sx.out hb
      replace Sm : Hid (Sl w56 A55 o4096 c55) := Sl.below Sm.out hb
      replace B : Hid (Below w.heap.size w w56) := below_mono B.out hb
      clear hb
      have Ss : Hid (Sl w56 A56 ls c56) := hs56
      clear hs56
      (try dsimp only)
      replace hzz : w.heap.size < w56.heap.size := lt_of_cell (a := ⟨w.heap.size, 0, none⟩) Kz.out.1
      replace hzp : w53.heap.size < w56.heap.size := lt_of_cell (a := ⟨w53.heap.size, 0, none⟩) Kp.out.1
      replace hzx : w54.heap.size < w56.heap.size := lt_of_cell (a := ⟨w54.heap.size, 0, none⟩) Kx.out.1
      clear Sm
      go_wp2_with fail
      refine (HFq.out _).mono ?_
      rintro e w57 ⟨A57, c57, rfl, hs57, hb⟩
      replace Kz : Hid (Cw w57 w.heap.size false none 0 0) := Cw.keep (Cw.keep Kz.out (blw1 _ _)) hb
      replace Kp : Hid (Cw w57 w53.heap.size np A53 lp.length c53) := Cw.keep (Cw.keep Kp.out (blw1 _ _)) hb
      replace Kx : Hid (Cw w57 w54.heap.size nx A54 lx.length c54) := Cw.keep (Cw.keep Kx.out (blw1 _ _)) hb
      have Ks : Hid (Cw w57 w56.heap.size ns A56 ls.length c56) := Cw.keep (Cw.fresh (by simp) _ _ _ _ _) hb
      replace Sz : Hid (Sl w57 none ([] : List Nat) 0) := Sl.below (Sz.out.alloc _) hb
      replace Sp : Hid (Sl w57 A53 lp c53) := Sl.below (Sp.out.alloc _) hb
      replace Sx : Hid (Sl w57 A54 lx c54) := Sl.below (Sx.out.alloc _) hb
      replace Ss : Hid (Sl w57 A56 ls c56) := Sl.below (Ss.out.alloc _) hb
      replace B : Hid (Below w.heap.size w w57) := below_mono (below_mono B.out (blw1 _ _)) hb
      clear hb
      have Sq : Hid (Sl w57 A57 lq c57) := hs57
      clear hs57
      (try dsimp only)
      replace hzz : w.heap.size < w57.heap.size := lt_of_cell (a := ⟨w.heap.size, 0, none⟩) Kz.out.1
      replace hzp : w53.heap.size < w57.heap.size := lt_of_cell (a := ⟨w53.heap.size, 0, none⟩) Kp.out.1
      replace hzx : w54.heap.size < w57.heap.size := lt_of_cell (a := ⟨w54.heap.size, 0, none⟩) Kx.out.1
      have hzs : w56.heap.size < w57.heap.size := lt_of_cell (a := ⟨w56.heap.size, 0, none⟩) Ks.out.1
      go_wp2_with fail
      refine (wshift_any nq _ lq _ (-131072) _ Sq.out).mono ?_
      rw [HE19.out]
      rintro e w58 ⟨A58, c58, rfl, hs58, hb⟩
      replace Kz : Hid (Cw w58 w.heap.size false none 0 0) := Cw.keep Kz.out hb
      replace Kp : Hid (Cw w58 w53.heap.size np A53 lp.length c53) := Cw.keep Kp.out hb
      replace Kx : Hid (Cw w58 w54.heap.size nx A54 lx.length c54) := Cw.keep Kx.out hb
      replace Ks : Hid (Cw w58 w56.heap.size ns A56 ls.length c56) := Cw.keep Ks.out hb
      replace Sz : Hid (Sl w58 none ([] : List Nat) 0) := Sl.below Sz.out hb
      replace Sp : Hid (Sl w58 A53 lp c53) := Sl.below Sp.out hb
      replace Sx : Hid (Sl w58 A54 lx c54) := Sl.below Sx.out hb
      replace Ss : Hid (Sl w58 A56 ls c56) := Sl.below Ss.out hb
      replace Sq : Hid (Sl w58 A57 lq c57) := Sl.below Sq.out hb
      replace B : Hid (Below w.heap.size w w58) := below_mono B.out hb
      clear hb
      have Su : Hid (Sl w58 A58 lu c58) := hs58
      clear hs58
      (try dsimp only)
      replace hzz : w.heap.size < w58.heap.size := lt_of_cell (a := ⟨w.heap.size, 0, none⟩) Kz.out.1
      replace hzp : w53.heap.size < w58.heap.size := lt_of_cell (a := ⟨w53.heap.size, 0, none⟩) Kp.out.1
      replace hzx : w54.heap.size < w58.heap.size := lt_of_cell (a := ⟨w54.heap.size, 0, none⟩) Kx.out.1
      replace hzs : w56.heap.size < w58.heap.size := lt_of_cell (a := ⟨w56.heap.size, 0, none⟩) Ks.out.1
      clear Sq
      go_wp2_with fail
      refine (alive_any _).mono ?_
      rintro e w59 ⟨rfl, hb⟩
      replace Kz : Hid (Cw w59 w.heap.size false none 0 0) := Cw.keep (Cw.keep Kz.out (blw1 _ _)) hb
      replace Kp : Hid (Cw w59 w53.heap.size np A53 lp.length c53) := Cw.keep (Cw.keep Kp.out (blw1 _ _)) hb
      replace Kx : Hid (Cw w59 w54.heap.size nx A54 lx.length c54) := Cw.keep (Cw.keep Kx.out (blw1 _ _)) hb
      replace Ks : Hid (Cw w59 w56.heap.size ns A56 ls.length c56) := Cw.keep (Cw.keep Ks.out (blw1 _ _)) hb
      have Ku : Hid (Cw w59 w58.heap.size nu A58 lu.length c58) := Cw.keep (Cw.fresh (by simp) _ _ _ _ _) hb
      replace Sz : Hid (Sl w59 none ([] : List Nat) 0) := Sl.below (Sz.out.alloc _) hb
      replace Sp : Hid (Sl w59 A53 lp c53) := Sl.below (Sp.out.alloc _) hb
      replace Sx : Hid (Sl w59 A54 lx c54) := Sl.below (Sx.out.alloc _) hb
      replace Ss : Hid (Sl w59 A56 ls c56) := Sl.below (Ss.out.alloc _) hb
      replace Su : Hid (Sl w59 A58 lu c58) := Sl.below (Su.out.alloc _) hb
      replace B : Hid (Below w.heap.size w w59) := below_mono (below_mono B.out (blw1 _ _)) hb
      clear hb
      replace hzz : w.heap.size < w59.heap.size := lt_of_cell (a := ⟨w.heap.size, 0, none⟩) Kz.out.1
      replace hzp : w53.heap.size < w59.heap.size := lt_of_cell (a := ⟨w53.heap.size, 0, none⟩) Kp.out.1
      replace hzx : w54.heap.size < w59.heap.size := lt_of_cell (a := ⟨w54.heap.size, 0, none⟩) Kx.out.1
      replace hzs : w56.heap.size < w59.heap.size := lt_of_cell (a := ⟨w56.heap.size, 0, none⟩) Ks.out.1
      have hzu : w58.heap.size < w59.heap.size := lt_of_cell (a := ⟨w58.heap.size, 0, none⟩) Ku.out.1
      obtain ⟨qp0, qp1⟩ := Kp.out
      go_wp2_with fail
      refine (lsame_any np _ lp _ (1) _ Sp.out hp (by omega) (by omega)).mono ?_
      rintro e w60 ⟨rfl, hb⟩
      clear qp0 qp1
      replace Kz : Hid (Cw w60 w.heap.size false none 0 0) := Cw.keep Kz.out hb
      replace Kp : Hid (Cw w60 w53.heap.size np A53 lp.length c53) := Cw.keep Kp.out hb
      replace Kx : Hid (Cw w60 w54.heap.size nx A54 lx.length c54) := Cw.keep Kx.out hb
      replace Ks : Hid (Cw w60 w56.heap.size ns A56 ls.length c56) := Cw.keep Ks.out hb
      replace Ku : Hid (Cw w60 w58.heap.size nu A58 lu.length c58) := Cw.keep Ku.out hb
      replace Sz : Hid (Sl w60 none ([] : List Nat) 0) := Sl.below Sz.out hb
      replace Sp : Hid (Sl w60 A53 lp c53) := Sl.below Sp.out hb
      replace Sx : Hid (Sl w60 A54 lx c54) := Sl.below Sx.out hb
      replace Ss : Hid (Sl w60 A56 ls c56) := Sl.below Ss.out hb
      replace Su : Hid (Sl w60 A58 lu c58) := Sl.below Su.out hb
      replace B : Hid (Below w.heap.size w w60) := below_mono B.out hb
      clear hb
      replace hzz : w.heap.size < w60.heap.size := lt_of_cell (a := ⟨w.heap.size, 0, none⟩) Kz.out.1
      replace hzp : w53.heap.size < w60.heap.size := lt_of_cell (a := ⟨w53.heap.size, 0, none⟩) Kp.out.1
      replace hzx : w54.heap.size < w60.heap.size := lt_of_cell (a := ⟨w54.heap.size, 0, none⟩) Kx.out.1
      replace hzs : w56.heap.size < w60.heap.size := lt_of_cell (a := ⟨w56.heap.size, 0, none⟩) Ks.out.1
      replace hzu : w58.heap.size < w60.heap.size := lt_of_cell (a := ⟨w58.heap.size, 0, none⟩) Ku.out.1
      obtain ⟨qx0, qx1⟩ := Kx.out
      go_wp2_with fail
      refine (lsame_any nx _ lx _ (0) _ Sx.out hx (by omega) (by omega)).mono ?_
      rintro e w61 ⟨rfl, hb⟩
      clear qx0 qx1
      replace Kz : Hid (Cw w61 w.heap.size false none 0 0) := Cw.keep Kz.out hb
      replace Kp : Hid (Cw w61 w53.heap.size np A53 lp.length c53) := Cw.keep Kp.out hb
      replace Kx : Hid (Cw w61 w54.heap.size nx A54 lx.length c54) := Cw.keep Kx.out hb
      replace Ks : Hid (Cw w61 w56.heap.size ns A56 ls.length c56) := Cw.keep Ks.out hb
      replace Ku : Hid (Cw w61 w58.heap.size nu A58 lu.length c58) := Cw.keep Ku.out hb
      replace Sz : Hid (Sl w61 none ([] : List Nat) 0) := Sl.below Sz.out hb
      replace Sp : Hid (Sl w61 A53 lp c53) := Sl.below Sp.out hb
      replace Sx : Hid (Sl w61 A54 lx c54) := Sl.below Sx.out hb
      replace Ss : Hid (Sl w61 A56 ls c56) := Sl.below Ss.out hb
      replace Su : Hid (Sl w61 A58 lu c58) := Sl.below Su.out hb
      replace B : Hid (Below w.heap.size w w61) := below_mono B.out hb
      clear hb
      replace hzz : w.heap.size < w61.heap.size := lt_of_cell (a := ⟨w.heap.size, 0, none⟩) Kz.out.1
      replace hzp : w53.heap.size < w61.heap.size := lt_of_cell (a := ⟨w53.heap.size, 0, none⟩) Kp.out.1
      replace hzx : w54.heap.size < w61.heap.size := lt_of_cell (a := ⟨w54.heap.size, 0, none⟩) Kx.out.1
      replace hzs : w56.heap.size < w61.heap.size := lt_of_cell (a := ⟨w56.heap.size, 0, none⟩) Ks.out.1
      replace hzu : w58.heap.size < w61.heap.size := lt_of_cell (a := ⟨w58.heap.size, 0, none⟩) Ku.out.1
      obtain ⟨qs0, qs1⟩ := Ks.out
      go_wp2_with fail
      refine (lsame_any ns _ ls _ (0) _ Ss.out hs (by omega) (by omega)).mono ?_
      rintro e w62 ⟨rfl, hb⟩
      clear qs0 qs1
      replace Kz : Hid (Cw w62 w.heap.size false none 0 0) := Cw.keep Kz.out hb
      replace Kp : Hid (Cw w62 w53.heap.size np A53 lp.length c53) := Cw.keep Kp.out hb
      replace Kx : Hid (Cw w62 w54.heap.size nx A54 lx.length c54) := Cw.keep Kx.out hb
      replace Ks : Hid (Cw w62 w56.heap.size ns A56 ls.length c56) := Cw.keep Ks.out hb
      replace Ku : Hid (Cw w62 w58.heap.size nu A58 lu.length c58) := Cw.keep Ku.out hb
      replace Sz : Hid (Sl w62 none ([] : List Nat) 0) := Sl.below Sz.out hb
      replace Sp : Hid (Sl w62 A53 lp c53) := Sl.below Sp.out hb
      replace Sx : Hid (Sl w62 A54 lx c54) := Sl.below Sx.out hb
      replace Ss : Hid (Sl w62 A56 ls c56) := Sl.below Ss.out hb
      replace Su : Hid (Sl w62 A58 lu c58) := Sl.below Su.out hb
      replace B : Hid (Below w.heap.size w w62) := below_mono B.out hb
      clear hb
      replace hzz : w.heap.size < w62.heap.size := lt_of_cell (a := ⟨w.heap.size, 0, none⟩) Kz.out.1
      replace hzp : w53.heap.size < w62.heap.size := lt_of_cell (a := ⟨w53.heap.size, 0, none⟩) Kp.out.1
      replace hzx : w54.heap.size < w62.heap.size := lt_of_cell (a := ⟨w54.heap.size, 0, none⟩) Kx.out.1
      replace hzs : w56.heap.size < w62.heap.size := lt_of_cell (a := ⟨w56.heap.size, 0, none⟩) Ks.out.1
      replace hzu : w58.heap.size < w62.heap.size := lt_of_cell (a := ⟨w58.heap.size, 0, none⟩) Ku.out.1
      obtain ⟨qu0, qu1⟩ := Ku.out
      go_wp2_with fail
      refine (lsame_any nu _ lu _ (-1) _ Su.out hu (by omega) (by omega)).mono ?_
      rintro e w63 ⟨rfl, hb⟩
      clear qu0 qu1
      replace Kz : Hid (Cw w63 w.heap.size false none 0 0) := Cw.keep Kz.out hb
      replace Kp : Hid (Cw w63 w53.heap.size np A53 lp.length c53) := Cw.keep Kp.out hb
      replace Kx : Hid (Cw w63 w54.heap.size nx A54 lx.length c54) := Cw.keep Kx.out hb
      replace Ks : Hid (Cw w63 w56.heap.size ns A56 ls.length c56) := Cw.keep Ks.out hb
      replace Ku : Hid (Cw w63 w58.heap.size nu A58 lu.length c58) := Cw.keep Ku.out hb
      replace Sz : Hid (Sl w63 none ([] : List Nat) 0) := Sl.below Sz.out hb
      replace Sp : Hid (Sl w63 A53 lp c53) := Sl.below Sp.out hb
      replace Sx : Hid (Sl w63 A54 lx c54) := Sl.below Sx.out hb
      replace Ss : Hid (Sl w63 A56 ls c56) := Sl.below Ss.out hb
      replace Su : Hid (Sl w63 A58 lu c58) := Sl.below Su.out hb
      replace B : Hid (Below w.heap.size w w63) := below_mono B.out hb
      clear hb
      replace hzz : w.heap.size < w63.heap.size := lt_of_cell (a := ⟨w.heap.size, 0, none⟩) Kz.out.1
      replace hzp : w53.heap.size < w63.heap.size := lt_of_cell (a := ⟨w53.heap.size, 0, none⟩) Kp.out.1
      replace hzx : w54.heap.size < w63.heap.size := lt_of_cell (a := ⟨w54.heap.size, 0, none⟩) Kx.out.1
      replace hzs : w56.heap.size < w63.heap.size := lt_of_cell (a := ⟨w56.heap.size, 0, none⟩) Ks.out.1
      replace hzu : w58.heap.size < w63.heap.size := lt_of_cell (a := ⟨w58.heap.size, 0, none⟩) Ku.out.1
      go_wp2
      go_ret
      exact ⟨rfl, B.out⟩

end Go.Proofs.YthlfidbhldbedaaDoor

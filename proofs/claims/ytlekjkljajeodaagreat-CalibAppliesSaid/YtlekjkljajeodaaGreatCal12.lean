/- Walk: the law CalibApplies. -/
import Derived.Test.YtlekjkljajeodaaGreatCal11
import Derived.Test.YtlekjkljajeodaaGreatCal8
namespace Go.Proofs.YtlekjkljajeodaaGreat
open Go.RowKit
attribute [local go_sem ↓] Go.wp_at_zero Go.wp_at_succ
set_option maxRecDepth 100000 in
set_option maxHeartbeats 8000000 in
theorem calibApplies_walk (f1 f2 f3 f4 : FD) (E D : Int) (B : Nat) (w : World) (ok1 : OkD w B f1) (ok2 : OkD w B f2) (ok3 : OkD w B f3) (ok4 : OkD w B f4) :
    Calls Tryz.prog 3 #[.agg #[.int .i64 f1.W, .int .i64 f1.H, .slice f1.A f1.l.length f1.c], .agg #[.int .i64 f2.W, .int .i64 f2.H, .slice f2.A f2.l.length f2.c], .agg #[.int .i64 f3.W, .int .i64 f3.H, .slice f3.A f3.l.length f3.c], .agg #[.int .i64 f4.W, .int .i64 f4.H, .slice f4.A f4.l.length f4.c], .int .i64 E, .int .i64 D] w fun e w' => e = .returned (.bool true) ∧ Below w.heap.size w w' := by
  have hC : Hid (∀ V, OkD V B f1 → OkD V B f2 → OkD V B f3 → OkD V B f4 → Calls Tryz.prog 12 #[.agg #[.int .i64 f1.W, .int .i64 f1.H, .slice f1.A f1.l.length f1.c], .agg #[.int .i64 f2.W, .int .i64 f2.H, .slice f2.A f2.l.length f2.c], .agg #[.int .i64 f3.W, .int .i64 f3.H, .slice f3.A f3.l.length f3.c], .agg #[.int .i64 f4.W, .int .i64 f4.H, .slice f4.A f4.l.length f4.c], .int .i64 E, .int .i64 D] V (ApR (apOut f1 f2 f3 f4 E D) V)) := fun V => capply_any f1 f2 f3 f4 E D B V
  have hR : Hid (∀ V, OkD V B f1 → OkD V B f2 → OkD V B f3 → OkD V B f4 → Calls Tryz.prog 13 #[.agg #[.int .i64 f1.W, .int .i64 f1.H, .slice f1.A f1.l.length f1.c], .agg #[.int .i64 f2.W, .int .i64 f2.H, .slice f2.A f2.l.length f2.c], .agg #[.int .i64 f3.W, .int .i64 f3.H, .slice f3.A f3.l.length f3.c], .agg #[.int .i64 f4.W, .int .i64 f4.H, .slice f4.A f4.l.length f4.c], .int .i64 E, .int .i64 D] V (ApR (apOut f1 f2 f3 f4 E D) V)) := fun V => rapply_any f1 f2 f3 f4 E D B V
  have hG : Hid (∀ V A, SlD V V.heap.size A [f1, f2, f3, f4] 4 → Calls Tryz.prog 11 #[.slice A 4 4] V fun e w' => e = .returned (.bool (greatC [f1, f2, f3, f4])) ∧ Below V.heap.size V w') := fun V A h => cgreat_any A [f1, f2, f3, f4] 4 _ V h
  generalize apOut f1 f2 f3 f4 E D = r at *
  generalize greatC [f1, f2, f3, f4] = gr at *
  obtain ⟨rW, rH, rl, rb, rk⟩ := r
  have tk : (rk == rk) = true := by simp
  replace ok1 := Lib.hid ok1
  replace ok2 := Lib.hid ok2
  replace ok3 := Lib.hid ok3
  replace ok4 := Lib.hid ok4
  go_enter Tryz.func3, Tryz.ntmps3
  go_wp2_with (fail)
  generalize hwz : (((w.alloc (.cells #[.int .i64 f1.W, .int .i64 f1.H, .slice f1.A f1.l.length f1.c] 24)).alloc (.cells #[.int .i64 f2.W, .int .i64 f2.H, .slice f2.A f2.l.length f2.c] 24)).alloc (.cells #[.int .i64 f3.W, .int .i64 f3.H, .slice f3.A f3.l.length f3.c] 24)).alloc (.cells #[.int .i64 f4.W, .int .i64 f4.H, .slice f4.A f4.l.length f4.c] 24) = wz at *
  have K0 : Hid (BlkV wz (w.heap.size) 24 #[.int .i64 f1.W, .int .i64 f1.H, .slice f1.A f1.l.length f1.c]) := by rw [← hwz]; exact (((BlkV.fresh (by simp) _ _).alloc _).alloc _).alloc _
  have K1 : Hid (BlkV wz (w.heap.size + 1) 24 #[.int .i64 f2.W, .int .i64 f2.H, .slice f2.A f2.l.length f2.c]) := by rw [← hwz]; exact ((BlkV.fresh (by simp) _ _).alloc _).alloc _
  have K2 : Hid (BlkV wz (w.heap.size + 2) 24 #[.int .i64 f3.W, .int .i64 f3.H, .slice f3.A f3.l.length f3.c]) := by rw [← hwz]; exact (BlkV.fresh (by simp) _ _).alloc _
  have K3 : Hid (BlkV wz (w.heap.size + 3) 24 #[.int .i64 f4.W, .int .i64 f4.H, .slice f4.A f4.l.length f4.c]) := by rw [← hwz]; exact BlkV.fresh (by simp) _ _
  have HB : Hid (Below w.heap.size w wz) := by rw [← hwz]; exact below_mono (below_mono (below_mono (blw1 _ _) (blw1 _ _)) (blw1 _ _)) (blw1 _ _)
  have O1 : Hid (OkD wz B f1) := by rw [← hwz]; exact OkD.below ok1.out (below_mono (below_mono (below_mono (blw1 _ _) (blw1 _ _)) (blw1 _ _)) (blw1 _ _))
  have O2 : Hid (OkD wz B f2) := by rw [← hwz]; exact OkD.below ok2.out (below_mono (below_mono (below_mono (blw1 _ _) (blw1 _ _)) (blw1 _ _)) (blw1 _ _))
  have O3 : Hid (OkD wz B f3) := by rw [← hwz]; exact OkD.below ok3.out (below_mono (below_mono (below_mono (blw1 _ _) (blw1 _ _)) (blw1 _ _)) (blw1 _ _))
  have O4 : Hid (OkD wz B f4) := by rw [← hwz]; exact OkD.below ok4.out (below_mono (below_mono (below_mono (blw1 _ _) (blw1 _ _)) (blw1 _ _)) (blw1 _ _))
  have hsz : w.heap.size + 1 + 1 + 1 + 1 = wz.heap.size := by rw [← hwz]; simp
  clear hwz
  have q00 : wz.cell? ⟨w.heap.size, 0, none⟩ = some (.int .i64 f1.W) := K0.out.at_ 0 rfl
  have q01 : wz.cell? ⟨w.heap.size, 1, none⟩ = some (.int .i64 f1.H) := K0.out.at_ 1 rfl
  have q02 : wz.cell? ⟨w.heap.size, 2, none⟩ = some (.slice f1.A f1.l.length f1.c) := K0.out.at_ 2 rfl
  have q10 : wz.cell? ⟨w.heap.size + 1, 0, none⟩ = some (.int .i64 f2.W) := K1.out.at_ 0 rfl
  have q11 : wz.cell? ⟨w.heap.size + 1, 1, none⟩ = some (.int .i64 f2.H) := K1.out.at_ 1 rfl
  have q12 : wz.cell? ⟨w.heap.size + 1, 2, none⟩ = some (.slice f2.A f2.l.length f2.c) := K1.out.at_ 2 rfl
  have q20 : wz.cell? ⟨w.heap.size + 2, 0, none⟩ = some (.int .i64 f3.W) := K2.out.at_ 0 rfl
  have q21 : wz.cell? ⟨w.heap.size + 2, 1, none⟩ = some (.int .i64 f3.H) := K2.out.at_ 1 rfl
  have q22 : wz.cell? ⟨w.heap.size + 2, 2, none⟩ = some (.slice f3.A f3.l.length f3.c) := K2.out.at_ 2 rfl
  have q30 : wz.cell? ⟨w.heap.size + 3, 0, none⟩ = some (.int .i64 f4.W) := K3.out.at_ 0 rfl
  have q31 : wz.cell? ⟨w.heap.size + 3, 1, none⟩ = some (.int .i64 f4.H) := K3.out.at_ 1 rfl
  have q32 : wz.cell? ⟨w.heap.size + 3, 2, none⟩ = some (.slice f4.A f4.l.length f4.c) := K3.out.at_ 2 rfl
  have SD : Hid (SlD (wz.alloc (.cells #[.int .i64 f1.W, .int .i64 f1.H, .slice f1.A f1.l.length f1.c, .int .i64 f2.W, .int .i64 f2.H, .slice f2.A f2.l.length f2.c, .int .i64 f3.W, .int .i64 f3.H, .slice f3.A f3.l.length f3.c, .int .i64 f4.W, .int .i64 f4.H, .slice f4.A f4.l.length f4.c] 24)) (wz.alloc (.cells #[.int .i64 f1.W, .int .i64 f1.H, .slice f1.A f1.l.length f1.c, .int .i64 f2.W, .int .i64 f2.H, .slice f2.A f2.l.length f2.c, .int .i64 f3.W, .int .i64 f3.H, .slice f3.A f3.l.length f3.c, .int .i64 f4.W, .int .i64 f4.H, .slice f4.A f4.l.length f4.c] 24)).heap.size (some ⟨w.heap.size + 1 + 1 + 1 + 1, 0, none⟩) [f1, f2, f3, f4] 4) := sld4 (BlkV.fresh hsz _ _) (O1.out.below (blw1 _ _)) (O2.out.below (blw1 _ _)) (O3.out.below (blw1 _ _)) (O4.out.below (blw1 _ _))
  clear hsz
  refine (hG.out _ _ SD.out).mono ?_
  rintro e w1 ⟨rfl, hb'⟩
  have hb := below_mono (blw1 _ _) hb'
  clear hb' SD
  clear q00 q01 q02 q10 q11 q12 q20 q21 q22 q30 q31 q32
  replace O1 := Lib.hid (O1.out.below hb)
  replace O2 := Lib.hid (O2.out.below hb)
  replace O3 := Lib.hid (O3.out.below hb)
  replace O4 := Lib.hid (O4.out.below hb)
  replace K0 := Lib.hid (K0.out.keep hb)
  replace K1 := Lib.hid (K1.out.keep hb)
  replace K2 := Lib.hid (K2.out.keep hb)
  replace K3 := Lib.hid (K3.out.keep hb)
  replace HB := Lib.hid (below_mono HB.out hb)
  clear hb
  have q00 : w1.cell? ⟨w.heap.size, 0, none⟩ = some (.int .i64 f1.W) := K0.out.at_ 0 rfl
  have q01 : w1.cell? ⟨w.heap.size, 1, none⟩ = some (.int .i64 f1.H) := K0.out.at_ 1 rfl
  have q02 : w1.cell? ⟨w.heap.size, 2, none⟩ = some (.slice f1.A f1.l.length f1.c) := K0.out.at_ 2 rfl
  have q10 : w1.cell? ⟨w.heap.size + 1, 0, none⟩ = some (.int .i64 f2.W) := K1.out.at_ 0 rfl
  have q11 : w1.cell? ⟨w.heap.size + 1, 1, none⟩ = some (.int .i64 f2.H) := K1.out.at_ 1 rfl
  have q12 : w1.cell? ⟨w.heap.size + 1, 2, none⟩ = some (.slice f2.A f2.l.length f2.c) := K1.out.at_ 2 rfl
  have q20 : w1.cell? ⟨w.heap.size + 2, 0, none⟩ = some (.int .i64 f3.W) := K2.out.at_ 0 rfl
  have q21 : w1.cell? ⟨w.heap.size + 2, 1, none⟩ = some (.int .i64 f3.H) := K2.out.at_ 1 rfl
  have q22 : w1.cell? ⟨w.heap.size + 2, 2, none⟩ = some (.slice f3.A f3.l.length f3.c) := K2.out.at_ 2 rfl
  have q30 : w1.cell? ⟨w.heap.size + 3, 0, none⟩ = some (.int .i64 f4.W) := K3.out.at_ 0 rfl
  have q31 : w1.cell? ⟨w.heap.size + 3, 1, none⟩ = some (.int .i64 f4.H) := K3.out.at_ 1 rfl
  have q32 : w1.cell? ⟨w.heap.size + 3, 2, none⟩ = some (.slice f4.A f4.l.length f4.c) := K3.out.at_ 2 rfl
  cases gr with
  | true =>
    go_wp2
    go_ret
    exact ⟨rfl, HB.out⟩
  | false =>
    go_wp2_with fail
    refine (hC.out _ O1.out O2.out O3.out O4.out).mono ?_
    rintro e w2 ⟨A5, c5, A6, c6, rfl, hs5, hs6, hb⟩
    (try dsimp only at hs5 hs6)
    (try dsimp only)
    clear q00 q01 q02 q10 q11 q12 q20 q21 q22 q30 q31 q32
    replace O1 := Lib.hid (O1.out.below hb)
    replace O2 := Lib.hid (O2.out.below hb)
    replace O3 := Lib.hid (O3.out.below hb)
    replace O4 := Lib.hid (O4.out.below hb)
    replace K0 := Lib.hid (K0.out.keep hb)
    replace K1 := Lib.hid (K1.out.keep hb)
    replace K2 := Lib.hid (K2.out.keep hb)
    replace K3 := Lib.hid (K3.out.keep hb)
    replace HB := Lib.hid (below_mono HB.out hb)
    clear hb
    have q00 : w2.cell? ⟨w.heap.size, 0, none⟩ = some (.int .i64 f1.W) := K0.out.at_ 0 rfl
    have q01 : w2.cell? ⟨w.heap.size, 1, none⟩ = some (.int .i64 f1.H) := K0.out.at_ 1 rfl
    have q02 : w2.cell? ⟨w.heap.size, 2, none⟩ = some (.slice f1.A f1.l.length f1.c) := K0.out.at_ 2 rfl
    have q10 : w2.cell? ⟨w.heap.size + 1, 0, none⟩ = some (.int .i64 f2.W) := K1.out.at_ 0 rfl
    have q11 : w2.cell? ⟨w.heap.size + 1, 1, none⟩ = some (.int .i64 f2.H) := K1.out.at_ 1 rfl
    have q12 : w2.cell? ⟨w.heap.size + 1, 2, none⟩ = some (.slice f2.A f2.l.length f2.c) := K1.out.at_ 2 rfl
    have q20 : w2.cell? ⟨w.heap.size + 2, 0, none⟩ = some (.int .i64 f3.W) := K2.out.at_ 0 rfl
    have q21 : w2.cell? ⟨w.heap.size + 2, 1, none⟩ = some (.int .i64 f3.H) := K2.out.at_ 1 rfl
    have q22 : w2.cell? ⟨w.heap.size + 2, 2, none⟩ = some (.slice f3.A f3.l.length f3.c) := K2.out.at_ 2 rfl
    have q30 : w2.cell? ⟨w.heap.size + 3, 0, none⟩ = some (.int .i64 f4.W) := K3.out.at_ 0 rfl
    have q31 : w2.cell? ⟨w.heap.size + 3, 1, none⟩ = some (.int .i64 f4.H) := K3.out.at_ 1 rfl
    have q32 : w2.cell? ⟨w.heap.size + 3, 2, none⟩ = some (.slice f4.A f4.l.length f4.c) := K3.out.at_ 2 rfl
    have S5 := Lib.hid hs5
    have S6 := Lib.hid hs6
    clear hs5 hs6
    have hzs : w.heap.size < w2.heap.size ∧ w.heap.size + 1 < w2.heap.size ∧ w.heap.size + 2 < w2.heap.size ∧ w.heap.size + 3 < w2.heap.size := ⟨K0.out.lt, K1.out.lt, K2.out.lt, K3.out.lt⟩
    obtain ⟨hs0, hs1, hs2, hs3⟩ := hzs
    go_wp2_with fail
    refine (hR.out _ (O1.out.below (blw1 _ _)) (O2.out.below (blw1 _ _)) (O3.out.below (blw1 _ _)) (O4.out.below (blw1 _ _))).mono ?_
    rintro e w3 ⟨A7, c7, A8, c8, rfl, hs7, hs8, hb'⟩
    (try dsimp only at hs7 hs8)
    (try dsimp only)
    have hb := below_mono (blw1 _ _) hb'
    have K5 : Hid (BlkV w3 w2.heap.size 24 #[.int .i64 rW, .int .i64 rH, .slice A5 rl.length c5]) := (BlkV.fresh rfl _ _).keep hb'
    clear hb'
    clear hs0 hs1 hs2 hs3
    clear q00 q01 q02 q10 q11 q12 q20 q21 q22 q30 q31 q32
    replace O1 := Lib.hid (O1.out.below hb)
    replace O2 := Lib.hid (O2.out.below hb)
    replace O3 := Lib.hid (O3.out.below hb)
    replace O4 := Lib.hid (O4.out.below hb)
    replace K0 := Lib.hid (K0.out.keep hb)
    replace K1 := Lib.hid (K1.out.keep hb)
    replace K2 := Lib.hid (K2.out.keep hb)
    replace K3 := Lib.hid (K3.out.keep hb)
    replace S5 := Lib.hid (S5.out.below hb)
    replace S6 := Lib.hid (S6.out.below hb)
    replace HB := Lib.hid (below_mono HB.out hb)
    clear hb
    have S7 := Lib.hid hs7
    have S8 := Lib.hid hs8
    clear hs7 hs8
    have q50 : w3.cell? ⟨w2.heap.size, 0, none⟩ = some (.int .i64 rW) := K5.out.at_ 0 rfl
    have q51 : w3.cell? ⟨w2.heap.size, 1, none⟩ = some (.int .i64 rH) := K5.out.at_ 1 rfl
    have q52 : w3.cell? ⟨w2.heap.size, 2, none⟩ = some (.slice A5 rl.length c5) := K5.out.at_ 2 rfl
    have hs5 : w2.heap.size < w3.heap.size := K5.out.lt
    go_wp2_with fail
    refine (csame_eq rW rH A5 A7 rl c5 c7 _ _ _ (S5.out.below (blw1 _ _)) (S7.out.below (blw1 _ _))).mono ?_
    rintro e w4 ⟨rfl, hb'⟩
    have hb := below_mono (blw1 _ _) hb'
    clear hb'
    go_wp2_with fail
    refine (csameb_eq A6 A8 rb c6 c8 _ _ _ (S6.out.below hb) (S8.out.below hb)).mono ?_
    rintro e w5 ⟨rfl, hb2⟩
    replace HB := Lib.hid (below_mono (below_mono HB.out hb) hb2)
    go_wp2
    go_ret
    exact ⟨rfl, HB.out⟩

end Go.Proofs.YtlekjkljajeodaaGreat

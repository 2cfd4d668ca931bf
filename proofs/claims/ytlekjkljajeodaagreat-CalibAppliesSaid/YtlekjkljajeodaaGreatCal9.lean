/- Walk: calib's Apply, where it answers the errors 8 and 2. -/
import Derived.Test.YtlekjkljajeodaaGreatCalP
namespace Go.Proofs.YtlekjkljajeodaaGreat
open Go.RowKit
attribute [local go_sem ↓] Go.wp_at_zero Go.wp_at_succ
theorem sld4 {f1 f2 f3 f4 : FD} {w : World} {g B : Nat} (h : BlkV w g 24 #[.int .i64 f1.W, .int .i64 f1.H, .slice f1.A f1.l.length f1.c, .int .i64 f2.W, .int .i64 f2.H, .slice f2.A f2.l.length f2.c, .int .i64 f3.W, .int .i64 f3.H, .slice f3.A f3.l.length f3.c, .int .i64 f4.W, .int .i64 f4.H, .slice f4.A f4.l.length f4.c]) (h1 : OkD w B f1) (h2 : OkD w B f2) (h3 : OkD w B f3) (h4 : OkD w B f4) : SlD w w.heap.size (some ⟨g, 0, none⟩) [f1, f2, f3, f4] 4 :=
  ⟨(RdV.of_blk (vs := [f1, f2, f3, f4].flatMap FD.cells) h).here, fun f hf => by
    have ok : ∀ f, OkD w B f → OkD w w.heap.size f := fun f h => ⟨h.sl.here, h.w1, h.w2, h.h1, h.h2⟩
    simp only [List.mem_cons, List.not_mem_nil, or_false] at hf
    rcases hf with rfl | rfl | rfl | rfl <;> first | exact ok _ h1 | exact ok _ h2 | exact ok _ h3 | exact ok _ h4, Nat.le_refl _, by simp⟩

theorem ali4 (f1 f2 f3 f4 : FD) : alikeB f1 [f1, f2, f3, f4] = (aliB f1 f2 && aliB f1 f3 && aliB f1 f4) := by
  unfold alikeB aliB
  simp only [List.all_cons, List.all_nil, decide_true, Bool.and_true, Bool.true_and, Bool.and_assoc, eq_comm]

set_option maxRecDepth 100000 in
set_option maxHeartbeats 8000000 in
theorem cap8 (f1 f2 f3 f4 : FD) (E D : Int) (B : Nat) (w : World) (ok1 : OkD w B f1) (ok2 : OkD w B f2) (ok3 : OkD w B f3) (ok4 : OkD w B f4) (hv : vchk [f1, f2, f3, f4] = 8) :
    Calls Tryz.prog 12 #[.agg #[.int .i64 f1.W, .int .i64 f1.H, .slice f1.A f1.l.length f1.c], .agg #[.int .i64 f2.W, .int .i64 f2.H, .slice f2.A f2.l.length f2.c], .agg #[.int .i64 f3.W, .int .i64 f3.H, .slice f3.A f3.l.length f3.c], .agg #[.int .i64 f4.W, .int .i64 f4.H, .slice f4.A f4.l.length f4.c], .int .i64 E, .int .i64 D] w (ApR ⟨0, 0, [], [], 8⟩ w) := by
  replace hv := Lib.hid hv
  replace ok1 := Lib.hid ok1
  replace ok2 := Lib.hid ok2
  replace ok3 := Lib.hid ok3
  replace ok4 := Lib.hid ok4
  go_enter Tryz.func12, Tryz.ntmps12
  go_wp2_with (fail)
  generalize hwz : ((((w.alloc (.cells #[.int .i64 f1.W, .int .i64 f1.H, .slice f1.A f1.l.length f1.c] 24)).alloc (.cells #[.int .i64 f2.W, .int .i64 f2.H, .slice f2.A f2.l.length f2.c] 24)).alloc (.cells #[.int .i64 f3.W, .int .i64 f3.H, .slice f3.A f3.l.length f3.c] 24)).alloc (.cells #[.int .i64 f4.W, .int .i64 f4.H, .slice f4.A f4.l.length f4.c] 24)).alloc (.cells #[.int .i64 0, .int .i64 0, .slice none 0 0] 24) = wz at *
  have I : Hid (B5 w wz B f1 f2 f3 f4) := by rw [← hwz]; exact B5.start ok1.out ok2.out ok3.out ok4.out
  have hsz : w.heap.size + 1 + 1 + 1 + 1 + 1 = wz.heap.size := by rw [← hwz]; simp
  clear hwz ok1 ok2 ok3 ok4
  obtain ⟨q00, q01, q02, q10, q11, q12, q20, q21, q22, q30, q31, q32⟩ := I.out.cells
  have SD : Hid (SlD (wz.alloc (.cells #[.int .i64 f1.W, .int .i64 f1.H, .slice f1.A f1.l.length f1.c, .int .i64 f2.W, .int .i64 f2.H, .slice f2.A f2.l.length f2.c, .int .i64 f3.W, .int .i64 f3.H, .slice f3.A f3.l.length f3.c, .int .i64 f4.W, .int .i64 f4.H, .slice f4.A f4.l.length f4.c] 24)) (wz.alloc (.cells #[.int .i64 f1.W, .int .i64 f1.H, .slice f1.A f1.l.length f1.c, .int .i64 f2.W, .int .i64 f2.H, .slice f2.A f2.l.length f2.c, .int .i64 f3.W, .int .i64 f3.H, .slice f3.A f3.l.length f3.c, .int .i64 f4.W, .int .i64 f4.H, .slice f4.A f4.l.length f4.c] 24)).heap.size (some ⟨w.heap.size + 1 + 1 + 1 + 1 + 1, 0, none⟩) [f1, f2, f3, f4] 4) := sld4 (BlkV.fresh hsz _ _) (I.out.o1.below (blw1 _ _)) (I.out.o2.below (blw1 _ _)) (I.out.o3.below (blw1 _ _)) (I.out.o4.below (blw1 _ _))
  clear hsz
  refine (valid_any _ [f1, f2, f3, f4] 4 _ _ SD.out).mono ?_
  rw [hv.out]
  rintro e w1 ⟨rfl, hb'⟩
  have hb := below_mono (blw1 _ _) hb'
  clear hb' SD
  clear q00 q01 q02 q10 q11 q12 q20 q21 q22 q30 q31 q32
  replace I := Lib.hid (I.out.carry hb)
  clear hb
  obtain ⟨q00, q01, q02, q10, q11, q12, q20, q21, q22, q30, q31, q32⟩ := I.out.cells
  obtain ⟨qo0, qo1, qo2, z0, z1, z2⟩ := I.out.outs
  go_wp2
  exact bodyPost_ret (v := .tuple #[.agg #[.int .i64 0, .int .i64 0, .slice none 0 0], .slice none 0 0, .int .i64 8]) (by simp [results, Tryz.results12, go_sem, qo0, qo1, qo2]) rfl (apR_err rfl (I.out.fin _ _ _))

set_option maxRecDepth 100000 in
set_option maxHeartbeats 8000000 in
theorem cap2_1 (f1 f2 f3 f4 : FD) (E D : Int) (B : Nat) (w : World) (ok1 : OkD w B f1) (ok2 : OkD w B f2) (ok3 : OkD w B f3) (ok4 : OkD w B f4) (hv : vchk [f1, f2, f3, f4] = 0) (ha : alikeB f1 [f1, f2, f3, f4] = false) :
    Calls Tryz.prog 12 #[.agg #[.int .i64 f1.W, .int .i64 f1.H, .slice f1.A f1.l.length f1.c], .agg #[.int .i64 f2.W, .int .i64 f2.H, .slice f2.A f2.l.length f2.c], .agg #[.int .i64 f3.W, .int .i64 f3.H, .slice f3.A f3.l.length f3.c], .agg #[.int .i64 f4.W, .int .i64 f4.H, .slice f4.A f4.l.length f4.c], .int .i64 E, .int .i64 D] w (ApR ⟨0, 0, [], [], 2⟩ w) := by
  replace hv := Lib.hid hv
  replace ha := Lib.hid ha
  replace ok1 := Lib.hid ok1
  replace ok2 := Lib.hid ok2
  replace ok3 := Lib.hid ok3
  replace ok4 := Lib.hid ok4
  go_enter Tryz.func12, Tryz.ntmps12
  go_wp2_with (fail)
  generalize hwz : ((((w.alloc (.cells #[.int .i64 f1.W, .int .i64 f1.H, .slice f1.A f1.l.length f1.c] 24)).alloc (.cells #[.int .i64 f2.W, .int .i64 f2.H, .slice f2.A f2.l.length f2.c] 24)).alloc (.cells #[.int .i64 f3.W, .int .i64 f3.H, .slice f3.A f3.l.length f3.c] 24)).alloc (.cells #[.int .i64 f4.W, .int .i64 f4.H, .slice f4.A f4.l.length f4.c] 24)).alloc (.cells #[.int .i64 0, .int .i64 0, .slice none 0 0] 24) = wz at *
  have I : Hid (B5 w wz B f1 f2 f3 f4) := by rw [← hwz]; exact B5.start ok1.out ok2.out ok3.out ok4.out
  have hsz : w.heap.size + 1 + 1 + 1 + 1 + 1 = wz.heap.size := by rw [← hwz]; simp
  clear hwz ok1 ok2 ok3 ok4
  obtain ⟨q00, q01, q02, q10, q11, q12, q20, q21, q22, q30, q31, q32⟩ := I.out.cells
  have SD : Hid (SlD (wz.alloc (.cells #[.int .i64 f1.W, .int .i64 f1.H, .slice f1.A f1.l.length f1.c, .int .i64 f2.W, .int .i64 f2.H, .slice f2.A f2.l.length f2.c, .int .i64 f3.W, .int .i64 f3.H, .slice f3.A f3.l.length f3.c, .int .i64 f4.W, .int .i64 f4.H, .slice f4.A f4.l.length f4.c] 24)) (wz.alloc (.cells #[.int .i64 f1.W, .int .i64 f1.H, .slice f1.A f1.l.length f1.c, .int .i64 f2.W, .int .i64 f2.H, .slice f2.A f2.l.length f2.c, .int .i64 f3.W, .int .i64 f3.H, .slice f3.A f3.l.length f3.c, .int .i64 f4.W, .int .i64 f4.H, .slice f4.A f4.l.length f4.c] 24)).heap.size (some ⟨w.heap.size + 1 + 1 + 1 + 1 + 1, 0, none⟩) [f1, f2, f3, f4] 4) := sld4 (BlkV.fresh hsz _ _) (I.out.o1.below (blw1 _ _)) (I.out.o2.below (blw1 _ _)) (I.out.o3.below (blw1 _ _)) (I.out.o4.below (blw1 _ _))
  clear hsz
  refine (valid_any _ [f1, f2, f3, f4] 4 _ _ SD.out).mono ?_
  rw [hv.out]
  rintro e w1 ⟨rfl, hb'⟩
  have hb := below_mono (blw1 _ _) hb'
  clear hb' SD
  clear q00 q01 q02 q10 q11 q12 q20 q21 q22 q30 q31 q32
  replace I := Lib.hid (I.out.carry hb)
  clear hb
  obtain ⟨q00, q01, q02, q10, q11, q12, q20, q21, q22, q30, q31, q32⟩ := I.out.cells
  have SD : Hid (SlD (w1.alloc (.cells #[.int .i64 f1.W, .int .i64 f1.H, .slice f1.A f1.l.length f1.c, .int .i64 f2.W, .int .i64 f2.H, .slice f2.A f2.l.length f2.c, .int .i64 f3.W, .int .i64 f3.H, .slice f3.A f3.l.length f3.c, .int .i64 f4.W, .int .i64 f4.H, .slice f4.A f4.l.length f4.c] 24)) (w1.alloc (.cells #[.int .i64 f1.W, .int .i64 f1.H, .slice f1.A f1.l.length f1.c, .int .i64 f2.W, .int .i64 f2.H, .slice f2.A f2.l.length f2.c, .int .i64 f3.W, .int .i64 f3.H, .slice f3.A f3.l.length f3.c, .int .i64 f4.W, .int .i64 f4.H, .slice f4.A f4.l.length f4.c] 24)).heap.size (some ⟨w1.heap.size, 0, none⟩) [f1, f2, f3, f4] 4) := sld4 (BlkV.fresh rfl _ _) (I.out.o1.below (blw1 _ _)) (I.out.o2.below (blw1 _ _)) (I.out.o3.below (blw1 _ _)) (I.out.o4.below (blw1 _ _))
  obtain ⟨hs0, hs1, hs2, hs3, hs4⟩ := I.out.lts
  go_wp2_with fail
  refine (alike_any _ f1 [f2, f3, f4] 4 _ _ SD.out).mono ?_
  rw [ha.out]
  rintro e w2 ⟨rfl, hb'⟩
  have hb := below_mono (blw1 _ _) hb'
  clear hb' SD hs0 hs1 hs2 hs3 hs4
  clear q00 q01 q02 q10 q11 q12 q20 q21 q22 q30 q31 q32
  replace I := Lib.hid (I.out.carry hb)
  clear hb
  obtain ⟨q00, q01, q02, q10, q11, q12, q20, q21, q22, q30, q31, q32⟩ := I.out.cells
  obtain ⟨qo0, qo1, qo2, z0, z1, z2⟩ := I.out.outs
  go_wp2
  exact bodyPost_ret (v := .tuple #[.agg #[.int .i64 0, .int .i64 0, .slice none 0 0], .slice none 0 0, .int .i64 2]) (by simp [results, Tryz.results12, go_sem, qo0, qo1, qo2]) rfl (apR_err rfl (I.out.fin _ _ _))

set_option maxRecDepth 100000 in
set_option maxHeartbeats 8000000 in
theorem cap2_2 (f1 f2 f3 f4 : FD) (E D : Int) (B : Nat) (w : World) (ok1 : OkD w B f1) (ok2 : OkD w B f2) (ok3 : OkD w B f3) (ok4 : OkD w B f4) (hv : vchk [f1, f2, f3, f4] = 0) (ha : alikeB f1 [f1, f2, f3, f4] = true) (g0 : E < 0) :
    Calls Tryz.prog 12 #[.agg #[.int .i64 f1.W, .int .i64 f1.H, .slice f1.A f1.l.length f1.c], .agg #[.int .i64 f2.W, .int .i64 f2.H, .slice f2.A f2.l.length f2.c], .agg #[.int .i64 f3.W, .int .i64 f3.H, .slice f3.A f3.l.length f3.c], .agg #[.int .i64 f4.W, .int .i64 f4.H, .slice f4.A f4.l.length f4.c], .int .i64 E, .int .i64 D] w (ApR ⟨0, 0, [], [], 2⟩ w) := by
  replace hv := Lib.hid hv
  replace ha := Lib.hid ha
  replace ok1 := Lib.hid ok1
  replace ok2 := Lib.hid ok2
  replace ok3 := Lib.hid ok3
  replace ok4 := Lib.hid ok4
  have u0 : decide (E < 0) = true := decide_eq_true g0
  clear g0
  go_enter Tryz.func12, Tryz.ntmps12
  go_wp2_with (fail)
  generalize hwz : ((((w.alloc (.cells #[.int .i64 f1.W, .int .i64 f1.H, .slice f1.A f1.l.length f1.c] 24)).alloc (.cells #[.int .i64 f2.W, .int .i64 f2.H, .slice f2.A f2.l.length f2.c] 24)).alloc (.cells #[.int .i64 f3.W, .int .i64 f3.H, .slice f3.A f3.l.length f3.c] 24)).alloc (.cells #[.int .i64 f4.W, .int .i64 f4.H, .slice f4.A f4.l.length f4.c] 24)).alloc (.cells #[.int .i64 0, .int .i64 0, .slice none 0 0] 24) = wz at *
  have I : Hid (B5 w wz B f1 f2 f3 f4) := by rw [← hwz]; exact B5.start ok1.out ok2.out ok3.out ok4.out
  have hsz : w.heap.size + 1 + 1 + 1 + 1 + 1 = wz.heap.size := by rw [← hwz]; simp
  clear hwz ok1 ok2 ok3 ok4
  obtain ⟨q00, q01, q02, q10, q11, q12, q20, q21, q22, q30, q31, q32⟩ := I.out.cells
  have SD : Hid (SlD (wz.alloc (.cells #[.int .i64 f1.W, .int .i64 f1.H, .slice f1.A f1.l.length f1.c, .int .i64 f2.W, .int .i64 f2.H, .slice f2.A f2.l.length f2.c, .int .i64 f3.W, .int .i64 f3.H, .slice f3.A f3.l.length f3.c, .int .i64 f4.W, .int .i64 f4.H, .slice f4.A f4.l.length f4.c] 24)) (wz.alloc (.cells #[.int .i64 f1.W, .int .i64 f1.H, .slice f1.A f1.l.length f1.c, .int .i64 f2.W, .int .i64 f2.H, .slice f2.A f2.l.length f2.c, .int .i64 f3.W, .int .i64 f3.H, .slice f3.A f3.l.length f3.c, .int .i64 f4.W, .int .i64 f4.H, .slice f4.A f4.l.length f4.c] 24)).heap.size (some ⟨w.heap.size + 1 + 1 + 1 + 1 + 1, 0, none⟩) [f1, f2, f3, f4] 4) := sld4 (BlkV.fresh hsz _ _) (I.out.o1.below (blw1 _ _)) (I.out.o2.below (blw1 _ _)) (I.out.o3.below (blw1 _ _)) (I.out.o4.below (blw1 _ _))
  clear hsz
  refine (valid_any _ [f1, f2, f3, f4] 4 _ _ SD.out).mono ?_
  rw [hv.out]
  rintro e w1 ⟨rfl, hb'⟩
  have hb := below_mono (blw1 _ _) hb'
  clear hb' SD
  clear q00 q01 q02 q10 q11 q12 q20 q21 q22 q30 q31 q32
  replace I := Lib.hid (I.out.carry hb)
  clear hb
  obtain ⟨q00, q01, q02, q10, q11, q12, q20, q21, q22, q30, q31, q32⟩ := I.out.cells
  have SD : Hid (SlD (w1.alloc (.cells #[.int .i64 f1.W, .int .i64 f1.H, .slice f1.A f1.l.length f1.c, .int .i64 f2.W, .int .i64 f2.H, .slice f2.A f2.l.length f2.c, .int .i64 f3.W, .int .i64 f3.H, .slice f3.A f3.l.length f3.c, .int .i64 f4.W, .int .i64 f4.H, .slice f4.A f4.l.length f4.c] 24)) (w1.alloc (.cells #[.int .i64 f1.W, .int .i64 f1.H, .slice f1.A f1.l.length f1.c, .int .i64 f2.W, .int .i64 f2.H, .slice f2.A f2.l.length f2.c, .int .i64 f3.W, .int .i64 f3.H, .slice f3.A f3.l.length f3.c, .int .i64 f4.W, .int .i64 f4.H, .slice f4.A f4.l.length f4.c] 24)).heap.size (some ⟨w1.heap.size, 0, none⟩) [f1, f2, f3, f4] 4) := sld4 (BlkV.fresh rfl _ _) (I.out.o1.below (blw1 _ _)) (I.out.o2.below (blw1 _ _)) (I.out.o3.below (blw1 _ _)) (I.out.o4.below (blw1 _ _))
  obtain ⟨hs0, hs1, hs2, hs3, hs4⟩ := I.out.lts
  go_wp2_with fail
  refine (alike_any _ f1 [f2, f3, f4] 4 _ _ SD.out).mono ?_
  rw [ha.out]
  rintro e w2 ⟨rfl, hb'⟩
  have hb := below_mono (blw1 _ _) hb'
  clear hb' SD hs0 hs1 hs2 hs3 hs4
  clear q00 q01 q02 q10 q11 q12 q20 q21 q22 q30 q31 q32
  replace I := Lib.hid (I.out.carry hb)
  clear hb
  obtain ⟨q00, q01, q02, q10, q11, q12, q20, q21, q22, q30, q31, q32⟩ := I.out.cells
  obtain ⟨qo0, qo1, qo2, z0, z1, z2⟩ := I.out.outs
  go_wp2
  exact bodyPost_ret (v := .tuple #[.agg #[.int .i64 0, .int .i64 0, .slice none 0 0], .slice none 0 0, .int .i64 2]) (by simp [results, Tryz.results12, go_sem, qo0, qo1, qo2]) rfl (apR_err rfl (I.out.fin _ _ _))

set_option maxRecDepth 100000 in
set_option maxHeartbeats 8000000 in
theorem cap2_3 (f1 f2 f3 f4 : FD) (E D : Int) (B : Nat) (w : World) (ok1 : OkD w B f1) (ok2 : OkD w B f2) (ok3 : OkD w B f3) (ok4 : OkD w B f4) (hv : vchk [f1, f2, f3, f4] = 0) (ha : alikeB f1 [f1, f2, f3, f4] = true) (g1 : 1000000 < E) :
    Calls Tryz.prog 12 #[.agg #[.int .i64 f1.W, .int .i64 f1.H, .slice f1.A f1.l.length f1.c], .agg #[.int .i64 f2.W, .int .i64 f2.H, .slice f2.A f2.l.length f2.c], .agg #[.int .i64 f3.W, .int .i64 f3.H, .slice f3.A f3.l.length f3.c], .agg #[.int .i64 f4.W, .int .i64 f4.H, .slice f4.A f4.l.length f4.c], .int .i64 E, .int .i64 D] w (ApR ⟨0, 0, [], [], 2⟩ w) := by
  replace hv := Lib.hid hv
  replace ha := Lib.hid ha
  replace ok1 := Lib.hid ok1
  replace ok2 := Lib.hid ok2
  replace ok3 := Lib.hid ok3
  replace ok4 := Lib.hid ok4
  have u0 : decide (E < 0) = false := decide_eq_false (by omega)
  have u1 : decide (1000000 < E) = true := decide_eq_true g1
  clear g1
  go_enter Tryz.func12, Tryz.ntmps12
  go_wp2_with (fail)
  generalize hwz : ((((w.alloc (.cells #[.int .i64 f1.W, .int .i64 f1.H, .slice f1.A f1.l.length f1.c] 24)).alloc (.cells #[.int .i64 f2.W, .int .i64 f2.H, .slice f2.A f2.l.length f2.c] 24)).alloc (.cells #[.int .i64 f3.W, .int .i64 f3.H, .slice f3.A f3.l.length f3.c] 24)).alloc (.cells #[.int .i64 f4.W, .int .i64 f4.H, .slice f4.A f4.l.length f4.c] 24)).alloc (.cells #[.int .i64 0, .int .i64 0, .slice none 0 0] 24) = wz at *
  have I : Hid (B5 w wz B f1 f2 f3 f4) := by rw [← hwz]; exact B5.start ok1.out ok2.out ok3.out ok4.out
  have hsz : w.heap.size + 1 + 1 + 1 + 1 + 1 = wz.heap.size := by rw [← hwz]; simp
  clear hwz ok1 ok2 ok3 ok4
  obtain ⟨q00, q01, q02, q10, q11, q12, q20, q21, q22, q30, q31, q32⟩ := I.out.cells
  have SD : Hid (SlD (wz.alloc (.cells #[.int .i64 f1.W, .int .i64 f1.H, .slice f1.A f1.l.length f1.c, .int .i64 f2.W, .int .i64 f2.H, .slice f2.A f2.l.length f2.c, .int .i64 f3.W, .int .i64 f3.H, .slice f3.A f3.l.length f3.c, .int .i64 f4.W, .int .i64 f4.H, .slice f4.A f4.l.length f4.c] 24)) (wz.alloc (.cells #[.int .i64 f1.W, .int .i64 f1.H, .slice f1.A f1.l.length f1.c, .int .i64 f2.W, .int .i64 f2.H, .slice f2.A f2.l.length f2.c, .int .i64 f3.W, .int .i64 f3.H, .slice f3.A f3.l.length f3.c, .int .i64 f4.W, .int .i64 f4.H, .slice f4.A f4.l.length f4.c] 24)).heap.size (some ⟨w.heap.size + 1 + 1 + 1 + 1 + 1, 0, none⟩) [f1, f2, f3, f4] 4) := sld4 (BlkV.fresh hsz _ _) (I.out.o1.below (blw1 _ _)) (I.out.o2.below (blw1 _ _)) (I.out.o3.below (blw1 _ _)) (I.out.o4.below (blw1 _ _))
  clear hsz
  refine (valid_any _ [f1, f2, f3, f4] 4 _ _ SD.out).mono ?_
  rw [hv.out]
  rintro e w1 ⟨rfl, hb'⟩
  have hb := below_mono (blw1 _ _) hb'
  clear hb' SD
  clear q00 q01 q02 q10 q11 q12 q20 q21 q22 q30 q31 q32
  replace I := Lib.hid (I.out.carry hb)
  clear hb
  obtain ⟨q00, q01, q02, q10, q11, q12, q20, q21, q22, q30, q31, q32⟩ := I.out.cells
  have SD : Hid (SlD (w1.alloc (.cells #[.int .i64 f1.W, .int .i64 f1.H, .slice f1.A f1.l.length f1.c, .int .i64 f2.W, .int .i64 f2.H, .slice f2.A f2.l.length f2.c, .int .i64 f3.W, .int .i64 f3.H, .slice f3.A f3.l.length f3.c, .int .i64 f4.W, .int .i64 f4.H, .slice f4.A f4.l.length f4.c] 24)) (w1.alloc (.cells #[.int .i64 f1.W, .int .i64 f1.H, .slice f1.A f1.l.length f1.c, .int .i64 f2.W, .int .i64 f2.H, .slice f2.A f2.l.length f2.c, .int .i64 f3.W, .int .i64 f3.H, .slice f3.A f3.l.length f3.c, .int .i64 f4.W, .int .i64 f4.H, .slice f4.A f4.l.length f4.c] 24)).heap.size (some ⟨w1.heap.size, 0, none⟩) [f1, f2, f3, f4] 4) := sld4 (BlkV.fresh rfl _ _) (I.out.o1.below (blw1 _ _)) (I.out.o2.below (blw1 _ _)) (I.out.o3.below (blw1 _ _)) (I.out.o4.below (blw1 _ _))
  obtain ⟨hs0, hs1, hs2, hs3, hs4⟩ := I.out.lts
  go_wp2_with fail
  refine (alike_any _ f1 [f2, f3, f4] 4 _ _ SD.out).mono ?_
  rw [ha.out]
  rintro e w2 ⟨rfl, hb'⟩
  have hb := below_mono (blw1 _ _) hb'
  clear hb' SD hs0 hs1 hs2 hs3 hs4
  clear q00 q01 q02 q10 q11 q12 q20 q21 q22 q30 q31 q32
  replace I := Lib.hid (I.out.carry hb)
  clear hb
  obtain ⟨q00, q01, q02, q10, q11, q12, q20, q21, q22, q30, q31, q32⟩ := I.out.cells
  obtain ⟨qo0, qo1, qo2, z0, z1, z2⟩ := I.out.outs
  go_wp2
  exact bodyPost_ret (v := .tuple #[.agg #[.int .i64 0, .int .i64 0, .slice none 0 0], .slice none 0 0, .int .i64 2]) (by simp [results, Tryz.results12, go_sem, qo0, qo1, qo2]) rfl (apR_err rfl (I.out.fin _ _ _))

set_option maxRecDepth 100000 in
set_option maxHeartbeats 8000000 in
theorem cap2_4 (f1 f2 f3 f4 : FD) (E D : Int) (B : Nat) (w : World) (ok1 : OkD w B f1) (ok2 : OkD w B f2) (ok3 : OkD w B f3) (ok4 : OkD w B f4) (hv : vchk [f1, f2, f3, f4] = 0) (ha : alikeB f1 [f1, f2, f3, f4] = true) (g0 : 0 ≤ E) (g1 : E ≤ 1000000) (g2 : D < 1) :
    Calls Tryz.prog 12 #[.agg #[.int .i64 f1.W, .int .i64 f1.H, .slice f1.A f1.l.length f1.c], .agg #[.int .i64 f2.W, .int .i64 f2.H, .slice f2.A f2.l.length f2.c], .agg #[.int .i64 f3.W, .int .i64 f3.H, .slice f3.A f3.l.length f3.c], .agg #[.int .i64 f4.W, .int .i64 f4.H, .slice f4.A f4.l.length f4.c], .int .i64 E, .int .i64 D] w (ApR ⟨0, 0, [], [], 2⟩ w) := by
  replace hv := Lib.hid hv
  replace ha := Lib.hid ha
  replace ok1 := Lib.hid ok1
  replace ok2 := Lib.hid ok2
  replace ok3 := Lib.hid ok3
  replace ok4 := Lib.hid ok4
  have u0 : decide (E < 0) = false := decide_eq_false (by omega)
  have u1 : decide (1000000 < E) = false := decide_eq_false (by omega)
  have u2 : decide (D < 1) = true := decide_eq_true g2
  clear g0 g1 g2
  go_enter Tryz.func12, Tryz.ntmps12
  go_wp2_with (fail)
  generalize hwz : ((((w.alloc (.cells #[.int .i64 f1.W, .int .i64 f1.H, .slice f1.A f1.l.length f1.c] 24)).alloc (.cells #[.int .i64 f2.W, .int .i64 f2.H, .slice f2.A f2.l.length f2.c] 24)).alloc (.cells #[.int .i64 f3.W, .int .i64 f3.H, .slice f3.A f3.l.length f3.c] 24)).alloc (.cells #[.int .i64 f4.W, .int .i64 f4.H, .slice f4.A f4.l.length f4.c] 24)).alloc (.cells #[.int .i64 0, .int .i64 0, .slice none 0 0] 24) = wz at *
  have I : Hid (B5 w wz B f1 f2 f3 f4) := by rw [← hwz]; exact B5.start ok1.out ok2.out ok3.out ok4.out
  have hsz : w.heap.size + 1 + 1 + 1 + 1 + 1 = wz.heap.size := by rw [← hwz]; simp
  clear hwz ok1 ok2 ok3 ok4
  obtain ⟨q00, q01, q02, q10, q11, q12, q20, q21, q22, q30, q31, q32⟩ := I.out.cells
  have SD : Hid (SlD (wz.alloc (.cells #[.int .i64 f1.W, .int .i64 f1.H, .slice f1.A f1.l.length f1.c, .int .i64 f2.W, .int .i64 f2.H, .slice f2.A f2.l.length f2.c, .int .i64 f3.W, .int .i64 f3.H, .slice f3.A f3.l.length f3.c, .int .i64 f4.W, .int .i64 f4.H, .slice f4.A f4.l.length f4.c] 24)) (wz.alloc (.cells #[.int .i64 f1.W, .int .i64 f1.H, .slice f1.A f1.l.length f1.c, .int .i64 f2.W, .int .i64 f2.H, .slice f2.A f2.l.length f2.c, .int .i64 f3.W, .int .i64 f3.H, .slice f3.A f3.l.length f3.c, .int .i64 f4.W, .int .i64 f4.H, .slice f4.A f4.l.length f4.c] 24)).heap.size (some ⟨w.heap.size + 1 + 1 + 1 + 1 + 1, 0, none⟩) [f1, f2, f3, f4] 4) := sld4 (BlkV.fresh hsz _ _) (I.out.o1.below (blw1 _ _)) (I.out.o2.below (blw1 _ _)) (I.out.o3.below (blw1 _ _)) (I.out.o4.below (blw1 _ _))
  clear hsz
  refine (valid_any _ [f1, f2, f3, f4] 4 _ _ SD.out).mono ?_
  rw [hv.out]
  rintro e w1 ⟨rfl, hb'⟩
  have hb := below_mono (blw1 _ _) hb'
  clear hb' SD
  clear q00 q01 q02 q10 q11 q12 q20 q21 q22 q30 q31 q32
  replace I := Lib.hid (I.out.carry hb)
  clear hb
  obtain ⟨q00, q01, q02, q10, q11, q12, q20, q21, q22, q30, q31, q32⟩ := I.out.cells
  have SD : Hid (SlD (w1.alloc (.cells #[.int .i64 f1.W, .int .i64 f1.H, .slice f1.A f1.l.length f1.c, .int .i64 f2.W, .int .i64 f2.H, .slice f2.A f2.l.length f2.c, .int .i64 f3.W, .int .i64 f3.H, .slice f3.A f3.l.length f3.c, .int .i64 f4.W, .int .i64 f4.H, .slice f4.A f4.l.length f4.c] 24)) (w1.alloc (.cells #[.int .i64 f1.W, .int .i64 f1.H, .slice f1.A f1.l.length f1.c, .int .i64 f2.W, .int .i64 f2.H, .slice f2.A f2.l.length f2.c, .int .i64 f3.W, .int .i64 f3.H, .slice f3.A f3.l.length f3.c, .int .i64 f4.W, .int .i64 f4.H, .slice f4.A f4.l.length f4.c] 24)).heap.size (some ⟨w1.heap.size, 0, none⟩) [f1, f2, f3, f4] 4) := sld4 (BlkV.fresh rfl _ _) (I.out.o1.below (blw1 _ _)) (I.out.o2.below (blw1 _ _)) (I.out.o3.below (blw1 _ _)) (I.out.o4.below (blw1 _ _))
  obtain ⟨hs0, hs1, hs2, hs3, hs4⟩ := I.out.lts
  go_wp2_with fail
  refine (alike_any _ f1 [f2, f3, f4] 4 _ _ SD.out).mono ?_
  rw [ha.out]
  rintro e w2 ⟨rfl, hb'⟩
  have hb := below_mono (blw1 _ _) hb'
  clear hb' SD hs0 hs1 hs2 hs3 hs4
  clear q00 q01 q02 q10 q11 q12 q20 q21 q22 q30 q31 q32
  replace I := Lib.hid (I.out.carry hb)
  clear hb
  obtain ⟨q00, q01, q02, q10, q11, q12, q20, q21, q22, q30, q31, q32⟩ := I.out.cells
  obtain ⟨qo0, qo1, qo2, z0, z1, z2⟩ := I.out.outs
  go_wp2
  exact bodyPost_ret (v := .tuple #[.agg #[.int .i64 0, .int .i64 0, .slice none 0 0], .slice none 0 0, .int .i64 2]) (by simp [results, Tryz.results12, go_sem, qo0, qo1, qo2]) rfl (apR_err rfl (I.out.fin _ _ _))

set_option maxRecDepth 100000 in
set_option maxHeartbeats 8000000 in
theorem cap2_5 (f1 f2 f3 f4 : FD) (E D : Int) (B : Nat) (w : World) (ok1 : OkD w B f1) (ok2 : OkD w B f2) (ok3 : OkD w B f3) (ok4 : OkD w B f4) (hv : vchk [f1, f2, f3, f4] = 0) (ha : alikeB f1 [f1, f2, f3, f4] = true) (g0 : 0 ≤ E) (g1 : E ≤ 1000000) (g3 : 1000000 < D) :
    Calls Tryz.prog 12 #[.agg #[.int .i64 f1.W, .int .i64 f1.H, .slice f1.A f1.l.length f1.c], .agg #[.int .i64 f2.W, .int .i64 f2.H, .slice f2.A f2.l.length f2.c], .agg #[.int .i64 f3.W, .int .i64 f3.H, .slice f3.A f3.l.length f3.c], .agg #[.int .i64 f4.W, .int .i64 f4.H, .slice f4.A f4.l.length f4.c], .int .i64 E, .int .i64 D] w (ApR ⟨0, 0, [], [], 2⟩ w) := by
  replace hv := Lib.hid hv
  replace ha := Lib.hid ha
  replace ok1 := Lib.hid ok1
  replace ok2 := Lib.hid ok2
  replace ok3 := Lib.hid ok3
  replace ok4 := Lib.hid ok4
  have u0 : decide (E < 0) = false := decide_eq_false (by omega)
  have u1 : decide (1000000 < E) = false := decide_eq_false (by omega)
  have u2 : decide (D < 1) = false := decide_eq_false (by omega)
  have u3 : decide (1000000 < D) = true := decide_eq_true g3
  clear g0 g1 g3
  go_enter Tryz.func12, Tryz.ntmps12
  go_wp2_with (fail)
  generalize hwz : ((((w.alloc (.cells #[.int .i64 f1.W, .int .i64 f1.H, .slice f1.A f1.l.length f1.c] 24)).alloc (.cells #[.int .i64 f2.W, .int .i64 f2.H, .slice f2.A f2.l.length f2.c] 24)).alloc (.cells #[.int .i64 f3.W, .int .i64 f3.H, .slice f3.A f3.l.length f3.c] 24)).alloc (.cells #[.int .i64 f4.W, .int .i64 f4.H, .slice f4.A f4.l.length f4.c] 24)).alloc (.cells #[.int .i64 0, .int .i64 0, .slice none 0 0] 24) = wz at *
  have I : Hid (B5 w wz B f1 f2 f3 f4) := by rw [← hwz]; exact B5.start ok1.out ok2.out ok3.out ok4.out
  have hsz : w.heap.size + 1 + 1 + 1 + 1 + 1 = wz.heap.size := by rw [← hwz]; simp
  clear hwz ok1 ok2 ok3 ok4
  obtain ⟨q00, q01, q02, q10, q11, q12, q20, q21, q22, q30, q31, q32⟩ := I.out.cells
  have SD : Hid (SlD (wz.alloc (.cells #[.int .i64 f1.W, .int .i64 f1.H, .slice f1.A f1.l.length f1.c, .int .i64 f2.W, .int .i64 f2.H, .slice f2.A f2.l.length f2.c, .int .i64 f3.W, .int .i64 f3.H, .slice f3.A f3.l.length f3.c, .int .i64 f4.W, .int .i64 f4.H, .slice f4.A f4.l.length f4.c] 24)) (wz.alloc (.cells #[.int .i64 f1.W, .int .i64 f1.H, .slice f1.A f1.l.length f1.c, .int .i64 f2.W, .int .i64 f2.H, .slice f2.A f2.l.length f2.c, .int .i64 f3.W, .int .i64 f3.H, .slice f3.A f3.l.length f3.c, .int .i64 f4.W, .int .i64 f4.H, .slice f4.A f4.l.length f4.c] 24)).heap.size (some ⟨w.heap.size + 1 + 1 + 1 + 1 + 1, 0, none⟩) [f1, f2, f3, f4] 4) := sld4 (BlkV.fresh hsz _ _) (I.out.o1.below (blw1 _ _)) (I.out.o2.below (blw1 _ _)) (I.out.o3.below (blw1 _ _)) (I.out.o4.below (blw1 _ _))
  clear hsz
  refine (valid_any _ [f1, f2, f3, f4] 4 _ _ SD.out).mono ?_
  rw [hv.out]
  rintro e w1 ⟨rfl, hb'⟩
  have hb := below_mono (blw1 _ _) hb'
  clear hb' SD
  clear q00 q01 q02 q10 q11 q12 q20 q21 q22 q30 q31 q32
  replace I := Lib.hid (I.out.carry hb)
  clear hb
  obtain ⟨q00, q01, q02, q10, q11, q12, q20, q21, q22, q30, q31, q32⟩ := I.out.cells
  have SD : Hid (SlD (w1.alloc (.cells #[.int .i64 f1.W, .int .i64 f1.H, .slice f1.A f1.l.length f1.c, .int .i64 f2.W, .int .i64 f2.H, .slice f2.A f2.l.length f2.c, .int .i64 f3.W, .int .i64 f3.H, .slice f3.A f3.l.length f3.c, .int .i64 f4.W, .int .i64 f4.H, .slice f4.A f4.l.length f4.c] 24)) (w1.alloc (.cells #[.int .i64 f1.W, .int .i64 f1.H, .slice f1.A f1.l.length f1.c, .int .i64 f2.W, .int .i64 f2.H, .slice f2.A f2.l.length f2.c, .int .i64 f3.W, .int .i64 f3.H, .slice f3.A f3.l.length f3.c, .int .i64 f4.W, .int .i64 f4.H, .slice f4.A f4.l.length f4.c] 24)).heap.size (some ⟨w1.heap.size, 0, none⟩) [f1, f2, f3, f4] 4) := sld4 (BlkV.fresh rfl _ _) (I.out.o1.below (blw1 _ _)) (I.out.o2.below (blw1 _ _)) (I.out.o3.below (blw1 _ _)) (I.out.o4.below (blw1 _ _))
  obtain ⟨hs0, hs1, hs2, hs3, hs4⟩ := I.out.lts
  go_wp2_with fail
  refine (alike_any _ f1 [f2, f3, f4] 4 _ _ SD.out).mono ?_
  rw [ha.out]
  rintro e w2 ⟨rfl, hb'⟩
  have hb := below_mono (blw1 _ _) hb'
  clear hb' SD hs0 hs1 hs2 hs3 hs4
  clear q00 q01 q02 q10 q11 q12 q20 q21 q22 q30 q31 q32
  replace I := Lib.hid (I.out.carry hb)
  clear hb
  obtain ⟨q00, q01, q02, q10, q11, q12, q20, q21, q22, q30, q31, q32⟩ := I.out.cells
  obtain ⟨qo0, qo1, qo2, z0, z1, z2⟩ := I.out.outs
  go_wp2
  exact bodyPost_ret (v := .tuple #[.agg #[.int .i64 0, .int .i64 0, .slice none 0 0], .slice none 0 0, .int .i64 2]) (by simp [results, Tryz.results12, go_sem, qo0, qo1, qo2]) rfl (apR_err rfl (I.out.fin _ _ _))

end Go.Proofs.YtlekjkljajeodaaGreat

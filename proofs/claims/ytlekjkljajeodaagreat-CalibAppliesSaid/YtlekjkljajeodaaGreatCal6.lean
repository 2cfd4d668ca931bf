/- Walk: the reference's Apply, where it answers an error. -/
import Derived.Test.YtlekjkljajeodaaGreatCalP
namespace Go.Proofs.YtlekjkljajeodaaGreat
open Go.RowKit
attribute [local go_sem ↓] Go.wp_at_zero Go.wp_at_succ
set_option maxRecDepth 100000 in
set_option maxHeartbeats 8000000 in
theorem rap8_1 (f1 f2 f3 f4 : FD) (E D : Int) (B : Nat) (w : World) (ok1 : OkD w B f1) (ok2 : OkD w B f2) (ok3 : OkD w B f3) (ok4 : OkD w B f4)  (hn : f1.chk ≠ 0) :
    Calls Tryz.prog 13 #[.agg #[.int .i64 f1.W, .int .i64 f1.H, .slice f1.A f1.l.length f1.c], .agg #[.int .i64 f2.W, .int .i64 f2.H, .slice f2.A f2.l.length f2.c], .agg #[.int .i64 f3.W, .int .i64 f3.H, .slice f3.A f3.l.length f3.c], .agg #[.int .i64 f4.W, .int .i64 f4.H, .slice f4.A f4.l.length f4.c], .int .i64 E, .int .i64 D] w (ApR ⟨0, 0, [], [], 8⟩ w) := by
  have ok1 := Lib.hid ok1
  have ok2 := Lib.hid ok2
  have ok3 := Lib.hid ok3
  have ok4 := Lib.hid ok4
  have t1 : (fchk f1.W f1.H f1.l != 0) = true := by rw [bne_iff_ne]; exact hn
  clear hn
  go_enter Tryz.func13, Tryz.ntmps13
  go_wp2_with (fail)
  generalize hwz : ((((w.alloc (.cells #[.int .i64 f1.W, .int .i64 f1.H, .slice f1.A f1.l.length f1.c] 24)).alloc (.cells #[.int .i64 f2.W, .int .i64 f2.H, .slice f2.A f2.l.length f2.c] 24)).alloc (.cells #[.int .i64 f3.W, .int .i64 f3.H, .slice f3.A f3.l.length f3.c] 24)).alloc (.cells #[.int .i64 f4.W, .int .i64 f4.H, .slice f4.A f4.l.length f4.c] 24)).alloc (.cells #[.int .i64 0, .int .i64 0, .slice none 0 0] 24) = wz at *
  have I : Hid (B5 w wz B f1 f2 f3 f4) := by rw [← hwz]; exact B5.start ok1.out ok2.out ok3.out ok4.out
  clear hwz ok1 ok2 ok3 ok4
  obtain ⟨q00, q01, q02, q10, q11, q12, q20, q21, q22, q30, q31, q32⟩ := I.out.cells
  refine (rccheck_any f1.W f1.H f1.A f1.l f1.c B _ I.out.o1.sl).mono ?_
  rintro e w1 ⟨rfl, hb⟩
  clear q00 q01 q02 q10 q11 q12 q20 q21 q22 q30 q31 q32
  replace I := Lib.hid (I.out.carry hb)
  clear hb
  obtain ⟨q00, q01, q02, q10, q11, q12, q20, q21, q22, q30, q31, q32⟩ := I.out.cells
  obtain ⟨qo0, qo1, qo2, z0, z1, z2⟩ := I.out.outs
  go_wp2
  exact bodyPost_ret (v := .tuple #[.agg #[.int .i64 0, .int .i64 0, .slice none 0 0], .slice none 0 0, .int .i64 8]) (by simp [results, Tryz.results13, go_sem, qo0, qo1, qo2]) rfl (apR_err rfl (I.out.fin _ _ _))

set_option maxRecDepth 100000 in
set_option maxHeartbeats 8000000 in
theorem rap8_2 (f1 f2 f3 f4 : FD) (E D : Int) (B : Nat) (w : World) (ok1 : OkD w B f1) (ok2 : OkD w B f2) (ok3 : OkD w B f3) (ok4 : OkD w B f4) (h1 : f1.chk = 0) (hn : f2.chk ≠ 0) :
    Calls Tryz.prog 13 #[.agg #[.int .i64 f1.W, .int .i64 f1.H, .slice f1.A f1.l.length f1.c], .agg #[.int .i64 f2.W, .int .i64 f2.H, .slice f2.A f2.l.length f2.c], .agg #[.int .i64 f3.W, .int .i64 f3.H, .slice f3.A f3.l.length f3.c], .agg #[.int .i64 f4.W, .int .i64 f4.H, .slice f4.A f4.l.length f4.c], .int .i64 E, .int .i64 D] w (ApR ⟨0, 0, [], [], 8⟩ w) := by
  have ok1 := Lib.hid ok1
  have ok2 := Lib.hid ok2
  have ok3 := Lib.hid ok3
  have ok4 := Lib.hid ok4
  have t1 : (fchk f1.W f1.H f1.l != 0) = false := by rw [show fchk f1.W f1.H f1.l = 0 from h1]; rfl
  clear h1
  have t2 : (fchk f2.W f2.H f2.l != 0) = true := by rw [bne_iff_ne]; exact hn
  clear hn
  go_enter Tryz.func13, Tryz.ntmps13
  go_wp2_with (fail)
  generalize hwz : ((((w.alloc (.cells #[.int .i64 f1.W, .int .i64 f1.H, .slice f1.A f1.l.length f1.c] 24)).alloc (.cells #[.int .i64 f2.W, .int .i64 f2.H, .slice f2.A f2.l.length f2.c] 24)).alloc (.cells #[.int .i64 f3.W, .int .i64 f3.H, .slice f3.A f3.l.length f3.c] 24)).alloc (.cells #[.int .i64 f4.W, .int .i64 f4.H, .slice f4.A f4.l.length f4.c] 24)).alloc (.cells #[.int .i64 0, .int .i64 0, .slice none 0 0] 24) = wz at *
  have I : Hid (B5 w wz B f1 f2 f3 f4) := by rw [← hwz]; exact B5.start ok1.out ok2.out ok3.out ok4.out
  clear hwz ok1 ok2 ok3 ok4
  obtain ⟨q00, q01, q02, q10, q11, q12, q20, q21, q22, q30, q31, q32⟩ := I.out.cells
  refine (rccheck_any f1.W f1.H f1.A f1.l f1.c B _ I.out.o1.sl).mono ?_
  rintro e w1 ⟨rfl, hb⟩
  clear q00 q01 q02 q10 q11 q12 q20 q21 q22 q30 q31 q32
  replace I := Lib.hid (I.out.carry hb)
  clear hb
  obtain ⟨q00, q01, q02, q10, q11, q12, q20, q21, q22, q30, q31, q32⟩ := I.out.cells
  go_wp2_with fail
  refine (rccheck_any f2.W f2.H f2.A f2.l f2.c B _ I.out.o2.sl).mono ?_
  rintro e w2 ⟨rfl, hb⟩
  clear q00 q01 q02 q10 q11 q12 q20 q21 q22 q30 q31 q32
  replace I := Lib.hid (I.out.carry hb)
  clear hb
  obtain ⟨q00, q01, q02, q10, q11, q12, q20, q21, q22, q30, q31, q32⟩ := I.out.cells
  obtain ⟨qo0, qo1, qo2, z0, z1, z2⟩ := I.out.outs
  go_wp2
  exact bodyPost_ret (v := .tuple #[.agg #[.int .i64 0, .int .i64 0, .slice none 0 0], .slice none 0 0, .int .i64 8]) (by simp [results, Tryz.results13, go_sem, qo0, qo1, qo2]) rfl (apR_err rfl (I.out.fin _ _ _))

set_option maxRecDepth 100000 in
set_option maxHeartbeats 8000000 in
theorem rap8_3 (f1 f2 f3 f4 : FD) (E D : Int) (B : Nat) (w : World) (ok1 : OkD w B f1) (ok2 : OkD w B f2) (ok3 : OkD w B f3) (ok4 : OkD w B f4) (h1 : f1.chk = 0) (h2 : f2.chk = 0) (hn : f3.chk ≠ 0) :
    Calls Tryz.prog 13 #[.agg #[.int .i64 f1.W, .int .i64 f1.H, .slice f1.A f1.l.length f1.c], .agg #[.int .i64 f2.W, .int .i64 f2.H, .slice f2.A f2.l.length f2.c], .agg #[.int .i64 f3.W, .int .i64 f3.H, .slice f3.A f3.l.length f3.c], .agg #[.int .i64 f4.W, .int .i64 f4.H, .slice f4.A f4.l.length f4.c], .int .i64 E, .int .i64 D] w (ApR ⟨0, 0, [], [], 8⟩ w) := by
  have ok1 := Lib.hid ok1
  have ok2 := Lib.hid ok2
  have ok3 := Lib.hid ok3
  have ok4 := Lib.hid ok4
  have t1 : (fchk f1.W f1.H f1.l != 0) = false := by rw [show fchk f1.W f1.H f1.l = 0 from h1]; rfl
  clear h1
  have t2 : (fchk f2.W f2.H f2.l != 0) = false := by rw [show fchk f2.W f2.H f2.l = 0 from h2]; rfl
  clear h2
  have t3 : (fchk f3.W f3.H f3.l != 0) = true := by rw [bne_iff_ne]; exact hn
  clear hn
  go_enter Tryz.func13, Tryz.ntmps13
  go_wp2_with (fail)
  generalize hwz : ((((w.alloc (.cells #[.int .i64 f1.W, .int .i64 f1.H, .slice f1.A f1.l.length f1.c] 24)).alloc (.cells #[.int .i64 f2.W, .int .i64 f2.H, .slice f2.A f2.l.length f2.c] 24)).alloc (.cells #[.int .i64 f3.W, .int .i64 f3.H, .slice f3.A f3.l.length f3.c] 24)).alloc (.cells #[.int .i64 f4.W, .int .i64 f4.H, .slice f4.A f4.l.length f4.c] 24)).alloc (.cells #[.int .i64 0, .int .i64 0, .slice none 0 0] 24) = wz at *
  have I : Hid (B5 w wz B f1 f2 f3 f4) := by rw [← hwz]; exact B5.start ok1.out ok2.out ok3.out ok4.out
  clear hwz ok1 ok2 ok3 ok4
  obtain ⟨q00, q01, q02, q10, q11, q12, q20, q21, q22, q30, q31, q32⟩ := I.out.cells
  refine (rccheck_any f1.W f1.H f1.A f1.l f1.c B _ I.out.o1.sl).mono ?_
  rintro e w1 ⟨rfl, hb⟩
  clear q00 q01 q02 q10 q11 q12 q20 q21 q22 q30 q31 q32
  replace I := Lib.hid (I.out.carry hb)
  clear hb
  obtain ⟨q00, q01, q02, q10, q11, q12, q20, q21, q22, q30, q31, q32⟩ := I.out.cells
  go_wp2_with fail
  refine (rccheck_any f2.W f2.H f2.A f2.l f2.c B _ I.out.o2.sl).mono ?_
  rintro e w2 ⟨rfl, hb⟩
  clear q00 q01 q02 q10 q11 q12 q20 q21 q22 q30 q31 q32
  replace I := Lib.hid (I.out.carry hb)
  clear hb
  obtain ⟨q00, q01, q02, q10, q11, q12, q20, q21, q22, q30, q31, q32⟩ := I.out.cells
  go_wp2_with fail
  refine (rccheck_any f3.W f3.H f3.A f3.l f3.c B _ I.out.o3.sl).mono ?_
  rintro e w3 ⟨rfl, hb⟩
  clear q00 q01 q02 q10 q11 q12 q20 q21 q22 q30 q31 q32
  replace I := Lib.hid (I.out.carry hb)
  clear hb
  obtain ⟨q00, q01, q02, q10, q11, q12, q20, q21, q22, q30, q31, q32⟩ := I.out.cells
  obtain ⟨qo0, qo1, qo2, z0, z1, z2⟩ := I.out.outs
  go_wp2
  exact bodyPost_ret (v := .tuple #[.agg #[.int .i64 0, .int .i64 0, .slice none 0 0], .slice none 0 0, .int .i64 8]) (by simp [results, Tryz.results13, go_sem, qo0, qo1, qo2]) rfl (apR_err rfl (I.out.fin _ _ _))

set_option maxRecDepth 100000 in
set_option maxHeartbeats 8000000 in
theorem rap8_4 (f1 f2 f3 f4 : FD) (E D : Int) (B : Nat) (w : World) (ok1 : OkD w B f1) (ok2 : OkD w B f2) (ok3 : OkD w B f3) (ok4 : OkD w B f4) (h1 : f1.chk = 0) (h2 : f2.chk = 0) (h3 : f3.chk = 0) (hn : f4.chk ≠ 0) :
    Calls Tryz.prog 13 #[.agg #[.int .i64 f1.W, .int .i64 f1.H, .slice f1.A f1.l.length f1.c], .agg #[.int .i64 f2.W, .int .i64 f2.H, .slice f2.A f2.l.length f2.c], .agg #[.int .i64 f3.W, .int .i64 f3.H, .slice f3.A f3.l.length f3.c], .agg #[.int .i64 f4.W, .int .i64 f4.H, .slice f4.A f4.l.length f4.c], .int .i64 E, .int .i64 D] w (ApR ⟨0, 0, [], [], 8⟩ w) := by
  have ok1 := Lib.hid ok1
  have ok2 := Lib.hid ok2
  have ok3 := Lib.hid ok3
  have ok4 := Lib.hid ok4
  have t1 : (fchk f1.W f1.H f1.l != 0) = false := by rw [show fchk f1.W f1.H f1.l = 0 from h1]; rfl
  clear h1
  have t2 : (fchk f2.W f2.H f2.l != 0) = false := by rw [show fchk f2.W f2.H f2.l = 0 from h2]; rfl
  clear h2
  have t3 : (fchk f3.W f3.H f3.l != 0) = false := by rw [show fchk f3.W f3.H f3.l = 0 from h3]; rfl
  clear h3
  have t4 : (fchk f4.W f4.H f4.l != 0) = true := by rw [bne_iff_ne]; exact hn
  clear hn
  go_enter Tryz.func13, Tryz.ntmps13
  go_wp2_with (fail)
  generalize hwz : ((((w.alloc (.cells #[.int .i64 f1.W, .int .i64 f1.H, .slice f1.A f1.l.length f1.c] 24)).alloc (.cells #[.int .i64 f2.W, .int .i64 f2.H, .slice f2.A f2.l.length f2.c] 24)).alloc (.cells #[.int .i64 f3.W, .int .i64 f3.H, .slice f3.A f3.l.length f3.c] 24)).alloc (.cells #[.int .i64 f4.W, .int .i64 f4.H, .slice f4.A f4.l.length f4.c] 24)).alloc (.cells #[.int .i64 0, .int .i64 0, .slice none 0 0] 24) = wz at *
  have I : Hid (B5 w wz B f1 f2 f3 f4) := by rw [← hwz]; exact B5.start ok1.out ok2.out ok3.out ok4.out
  clear hwz ok1 ok2 ok3 ok4
  obtain ⟨q00, q01, q02, q10, q11, q12, q20, q21, q22, q30, q31, q32⟩ := I.out.cells
  refine (rccheck_any f1.W f1.H f1.A f1.l f1.c B _ I.out.o1.sl).mono ?_
  rintro e w1 ⟨rfl, hb⟩
  clear q00 q01 q02 q10 q11 q12 q20 q21 q22 q30 q31 q32
  replace I := Lib.hid (I.out.carry hb)
  clear hb
  obtain ⟨q00, q01, q02, q10, q11, q12, q20, q21, q22, q30, q31, q32⟩ := I.out.cells
  go_wp2_with fail
  refine (rccheck_any f2.W f2.H f2.A f2.l f2.c B _ I.out.o2.sl).mono ?_
  rintro e w2 ⟨rfl, hb⟩
  clear q00 q01 q02 q10 q11 q12 q20 q21 q22 q30 q31 q32
  replace I := Lib.hid (I.out.carry hb)
  clear hb
  obtain ⟨q00, q01, q02, q10, q11, q12, q20, q21, q22, q30, q31, q32⟩ := I.out.cells
  go_wp2_with fail
  refine (rccheck_any f3.W f3.H f3.A f3.l f3.c B _ I.out.o3.sl).mono ?_
  rintro e w3 ⟨rfl, hb⟩
  clear q00 q01 q02 q10 q11 q12 q20 q21 q22 q30 q31 q32
  replace I := Lib.hid (I.out.carry hb)
  clear hb
  obtain ⟨q00, q01, q02, q10, q11, q12, q20, q21, q22, q30, q31, q32⟩ := I.out.cells
  go_wp2_with fail
  refine (rccheck_any f4.W f4.H f4.A f4.l f4.c B _ I.out.o4.sl).mono ?_
  rintro e w4 ⟨rfl, hb⟩
  clear q00 q01 q02 q10 q11 q12 q20 q21 q22 q30 q31 q32
  replace I := Lib.hid (I.out.carry hb)
  clear hb
  obtain ⟨q00, q01, q02, q10, q11, q12, q20, q21, q22, q30, q31, q32⟩ := I.out.cells
  obtain ⟨qo0, qo1, qo2, z0, z1, z2⟩ := I.out.outs
  go_wp2
  exact bodyPost_ret (v := .tuple #[.agg #[.int .i64 0, .int .i64 0, .slice none 0 0], .slice none 0 0, .int .i64 8]) (by simp [results, Tryz.results13, go_sem, qo0, qo1, qo2]) rfl (apR_err rfl (I.out.fin _ _ _))

set_option maxRecDepth 100000 in
set_option maxHeartbeats 8000000 in
theorem rap2_2 (f1 f2 f3 f4 : FD) (E D : Int) (B : Nat) (w : World) (ok1 : OkD w B f1) (ok2 : OkD w B f2) (ok3 : OkD w B f3) (ok4 : OkD w B f4) (c1 : f1.chk = 0) (c2 : f2.chk = 0) (c3 : f3.chk = 0) (c4 : f4.chk = 0) (a2 : aliB f1 f2 = false) :
    Calls Tryz.prog 13 #[.agg #[.int .i64 f1.W, .int .i64 f1.H, .slice f1.A f1.l.length f1.c], .agg #[.int .i64 f2.W, .int .i64 f2.H, .slice f2.A f2.l.length f2.c], .agg #[.int .i64 f3.W, .int .i64 f3.H, .slice f3.A f3.l.length f3.c], .agg #[.int .i64 f4.W, .int .i64 f4.H, .slice f4.A f4.l.length f4.c], .int .i64 E, .int .i64 D] w (ApR ⟨0, 0, [], [], 2⟩ w) := by
  have ok1 := Lib.hid ok1
  have ok2 := Lib.hid ok2
  have ok3 := Lib.hid ok3
  have ok4 := Lib.hid ok4
  have t1 : (fchk f1.W f1.H f1.l != 0) = false := by rw [show fchk f1.W f1.H f1.l = 0 from c1]; rfl
  clear c1
  have t2 : (fchk f2.W f2.H f2.l != 0) = false := by rw [show fchk f2.W f2.H f2.l = 0 from c2]; rfl
  clear c2
  have t3 : (fchk f3.W f3.H f3.l != 0) = false := by rw [show fchk f3.W f3.H f3.l = 0 from c3]; rfl
  clear c3
  have t4 : (fchk f4.W f4.H f4.l != 0) = false := by rw [show fchk f4.W f4.H f4.l = 0 from c4]; rfl
  clear c4
  replace a2 := Lib.hid a2
  go_enter Tryz.func13, Tryz.ntmps13
  go_wp2_with (fail)
  generalize hwz : ((((w.alloc (.cells #[.int .i64 f1.W, .int .i64 f1.H, .slice f1.A f1.l.length f1.c] 24)).alloc (.cells #[.int .i64 f2.W, .int .i64 f2.H, .slice f2.A f2.l.length f2.c] 24)).alloc (.cells #[.int .i64 f3.W, .int .i64 f3.H, .slice f3.A f3.l.length f3.c] 24)).alloc (.cells #[.int .i64 f4.W, .int .i64 f4.H, .slice f4.A f4.l.length f4.c] 24)).alloc (.cells #[.int .i64 0, .int .i64 0, .slice none 0 0] 24) = wz at *
  have I : Hid (B5 w wz B f1 f2 f3 f4) := by rw [← hwz]; exact B5.start ok1.out ok2.out ok3.out ok4.out
  clear hwz ok1 ok2 ok3 ok4
  obtain ⟨q00, q01, q02, q10, q11, q12, q20, q21, q22, q30, q31, q32⟩ := I.out.cells
  refine (rccheck_any f1.W f1.H f1.A f1.l f1.c B _ I.out.o1.sl).mono ?_
  rintro e w1 ⟨rfl, hb⟩
  clear q00 q01 q02 q10 q11 q12 q20 q21 q22 q30 q31 q32
  replace I := Lib.hid (I.out.carry hb)
  clear hb
  obtain ⟨q00, q01, q02, q10, q11, q12, q20, q21, q22, q30, q31, q32⟩ := I.out.cells
  go_wp2_with fail
  refine (rccheck_any f2.W f2.H f2.A f2.l f2.c B _ I.out.o2.sl).mono ?_
  rintro e w2 ⟨rfl, hb⟩
  clear q00 q01 q02 q10 q11 q12 q20 q21 q22 q30 q31 q32
  replace I := Lib.hid (I.out.carry hb)
  clear hb
  obtain ⟨q00, q01, q02, q10, q11, q12, q20, q21, q22, q30, q31, q32⟩ := I.out.cells
  go_wp2_with fail
  refine (rccheck_any f3.W f3.H f3.A f3.l f3.c B _ I.out.o3.sl).mono ?_
  rintro e w3 ⟨rfl, hb⟩
  clear q00 q01 q02 q10 q11 q12 q20 q21 q22 q30 q31 q32
  replace I := Lib.hid (I.out.carry hb)
  clear hb
  obtain ⟨q00, q01, q02, q10, q11, q12, q20, q21, q22, q30, q31, q32⟩ := I.out.cells
  go_wp2_with fail
  refine (rccheck_any f4.W f4.H f4.A f4.l f4.c B _ I.out.o4.sl).mono ?_
  rintro e w4 ⟨rfl, hb⟩
  clear q00 q01 q02 q10 q11 q12 q20 q21 q22 q30 q31 q32
  replace I := Lib.hid (I.out.carry hb)
  clear hb
  obtain ⟨q00, q01, q02, q10, q11, q12, q20, q21, q22, q30, q31, q32⟩ := I.out.cells
  go_wp2_with fail
  refine (ralike_any f1 f2 _).mono ?_
  rw [a2.out]
  rintro e w5 ⟨rfl, hb⟩
  clear q00 q01 q02 q10 q11 q12 q20 q21 q22 q30 q31 q32
  replace I := Lib.hid (I.out.carry hb)
  clear hb
  obtain ⟨q00, q01, q02, q10, q11, q12, q20, q21, q22, q30, q31, q32⟩ := I.out.cells
  obtain ⟨qo0, qo1, qo2, z0, z1, z2⟩ := I.out.outs
  go_wp2
  exact bodyPost_ret (v := .tuple #[.agg #[.int .i64 0, .int .i64 0, .slice none 0 0], .slice none 0 0, .int .i64 2]) (by simp [results, Tryz.results13, go_sem, qo0, qo1, qo2]) rfl (apR_err rfl (I.out.fin _ _ _))

set_option maxRecDepth 100000 in
set_option maxHeartbeats 8000000 in
theorem rap2_3 (f1 f2 f3 f4 : FD) (E D : Int) (B : Nat) (w : World) (ok1 : OkD w B f1) (ok2 : OkD w B f2) (ok3 : OkD w B f3) (ok4 : OkD w B f4) (c1 : f1.chk = 0) (c2 : f2.chk = 0) (c3 : f3.chk = 0) (c4 : f4.chk = 0) (a2 : aliB f1 f2 = true) (a3 : aliB f1 f3 = false) :
    Calls Tryz.prog 13 #[.agg #[.int .i64 f1.W, .int .i64 f1.H, .slice f1.A f1.l.length f1.c], .agg #[.int .i64 f2.W, .int .i64 f2.H, .slice f2.A f2.l.length f2.c], .agg #[.int .i64 f3.W, .int .i64 f3.H, .slice f3.A f3.l.length f3.c], .agg #[.int .i64 f4.W, .int .i64 f4.H, .slice f4.A f4.l.length f4.c], .int .i64 E, .int .i64 D] w (ApR ⟨0, 0, [], [], 2⟩ w) := by
  have ok1 := Lib.hid ok1
  have ok2 := Lib.hid ok2
  have ok3 := Lib.hid ok3
  have ok4 := Lib.hid ok4
  have t1 : (fchk f1.W f1.H f1.l != 0) = false := by rw [show fchk f1.W f1.H f1.l = 0 from c1]; rfl
  clear c1
  have t2 : (fchk f2.W f2.H f2.l != 0) = false := by rw [show fchk f2.W f2.H f2.l = 0 from c2]; rfl
  clear c2
  have t3 : (fchk f3.W f3.H f3.l != 0) = false := by rw [show fchk f3.W f3.H f3.l = 0 from c3]; rfl
  clear c3
  have t4 : (fchk f4.W f4.H f4.l != 0) = false := by rw [show fchk f4.W f4.H f4.l = 0 from c4]; rfl
  clear c4
  replace a2 := Lib.hid a2
  replace a3 := Lib.hid a3
  go_enter Tryz.func13, Tryz.ntmps13
  go_wp2_with (fail)
  generalize hwz : ((((w.alloc (.cells #[.int .i64 f1.W, .int .i64 f1.H, .slice f1.A f1.l.length f1.c] 24)).alloc (.cells #[.int .i64 f2.W, .int .i64 f2.H, .slice f2.A f2.l.length f2.c] 24)).alloc (.cells #[.int .i64 f3.W, .int .i64 f3.H, .slice f3.A f3.l.length f3.c] 24)).alloc (.cells #[.int .i64 f4.W, .int .i64 f4.H, .slice f4.A f4.l.length f4.c] 24)).alloc (.cells #[.int .i64 0, .int .i64 0, .slice none 0 0] 24) = wz at *
  have I : Hid (B5 w wz B f1 f2 f3 f4) := by rw [← hwz]; exact B5.start ok1.out ok2.out ok3.out ok4.out
  clear hwz ok1 ok2 ok3 ok4
  obtain ⟨q00, q01, q02, q10, q11, q12, q20, q21, q22, q30, q31, q32⟩ := I.out.cells
  refine (rccheck_any f1.W f1.H f1.A f1.l f1.c B _ I.out.o1.sl).mono ?_
  rintro e w1 ⟨rfl, hb⟩
  clear q00 q01 q02 q10 q11 q12 q20 q21 q22 q30 q31 q32
  replace I := Lib.hid (I.out.carry hb)
  clear hb
  obtain ⟨q00, q01, q02, q10, q11, q12, q20, q21, q22, q30, q31, q32⟩ := I.out.cells
  go_wp2_with fail
  refine (rccheck_any f2.W f2.H f2.A f2.l f2.c B _ I.out.o2.sl).mono ?_
  rintro e w2 ⟨rfl, hb⟩
  clear q00 q01 q02 q10 q11 q12 q20 q21 q22 q30 q31 q32
  replace I := Lib.hid (I.out.carry hb)
  clear hb
  obtain ⟨q00, q01, q02, q10, q11, q12, q20, q21, q22, q30, q31, q32⟩ := I.out.cells
  go_wp2_with fail
  refine (rccheck_any f3.W f3.H f3.A f3.l f3.c B _ I.out.o3.sl).mono ?_
  rintro e w3 ⟨rfl, hb⟩
  clear q00 q01 q02 q10 q11 q12 q20 q21 q22 q30 q31 q32
  replace I := Lib.hid (I.out.carry hb)
  clear hb
  obtain ⟨q00, q01, q02, q10, q11, q12, q20, q21, q22, q30, q31, q32⟩ := I.out.cells
  go_wp2_with fail
  refine (rccheck_any f4.W f4.H f4.A f4.l f4.c B _ I.out.o4.sl).mono ?_
  rintro e w4 ⟨rfl, hb⟩
  clear q00 q01 q02 q10 q11 q12 q20 q21 q22 q30 q31 q32
  replace I := Lib.hid (I.out.carry hb)
  clear hb
  obtain ⟨q00, q01, q02, q10, q11, q12, q20, q21, q22, q30, q31, q32⟩ := I.out.cells
  go_wp2_with fail
  refine (ralike_any f1 f2 _).mono ?_
  rw [a2.out]
  rintro e w5 ⟨rfl, hb⟩
  clear q00 q01 q02 q10 q11 q12 q20 q21 q22 q30 q31 q32
  replace I := Lib.hid (I.out.carry hb)
  clear hb
  obtain ⟨q00, q01, q02, q10, q11, q12, q20, q21, q22, q30, q31, q32⟩ := I.out.cells
  go_wp2_with fail
  refine (ralike_any f1 f3 _).mono ?_
  rw [a3.out]
  rintro e w6 ⟨rfl, hb⟩
  clear q00 q01 q02 q10 q11 q12 q20 q21 q22 q30 q31 q32
  replace I := Lib.hid (I.out.carry hb)
  clear hb
  obtain ⟨q00, q01, q02, q10, q11, q12, q20, q21, q22, q30, q31, q32⟩ := I.out.cells
  obtain ⟨qo0, qo1, qo2, z0, z1, z2⟩ := I.out.outs
  go_wp2
  exact bodyPost_ret (v := .tuple #[.agg #[.int .i64 0, .int .i64 0, .slice none 0 0], .slice none 0 0, .int .i64 2]) (by simp [results, Tryz.results13, go_sem, qo0, qo1, qo2]) rfl (apR_err rfl (I.out.fin _ _ _))

set_option maxRecDepth 100000 in
set_option maxHeartbeats 8000000 in
theorem rap2_4 (f1 f2 f3 f4 : FD) (E D : Int) (B : Nat) (w : World) (ok1 : OkD w B f1) (ok2 : OkD w B f2) (ok3 : OkD w B f3) (ok4 : OkD w B f4) (c1 : f1.chk = 0) (c2 : f2.chk = 0) (c3 : f3.chk = 0) (c4 : f4.chk = 0) (a2 : aliB f1 f2 = true) (a3 : aliB f1 f3 = true) (a4 : aliB f1 f4 = false) :
    Calls Tryz.prog 13 #[.agg #[.int .i64 f1.W, .int .i64 f1.H, .slice f1.A f1.l.length f1.c], .agg #[.int .i64 f2.W, .int .i64 f2.H, .slice f2.A f2.l.length f2.c], .agg #[.int .i64 f3.W, .int .i64 f3.H, .slice f3.A f3.l.length f3.c], .agg #[.int .i64 f4.W, .int .i64 f4.H, .slice f4.A f4.l.length f4.c], .int .i64 E, .int .i64 D] w (ApR ⟨0, 0, [], [], 2⟩ w) := by
  have ok1 := Lib.hid ok1
  have ok2 := Lib.hid ok2
  have ok3 := Lib.hid ok3
  have ok4 := Lib.hid ok4
  have t1 : (fchk f1.W f1.H f1.l != 0) = false := by rw [show fchk f1.W f1.H f1.l = 0 from c1]; rfl
  clear c1
  have t2 : (fchk f2.W f2.H f2.l != 0) = false := by rw [show fchk f2.W f2.H f2.l = 0 from c2]; rfl
  clear c2
  have t3 : (fchk f3.W f3.H f3.l != 0) = false := by rw [show fchk f3.W f3.H f3.l = 0 from c3]; rfl
  clear c3
  have t4 : (fchk f4.W f4.H f4.l != 0) = false := by rw [show fchk f4.W f4.H f4.l = 0 from c4]; rfl
  clear c4
  replace a2 := Lib.hid a2
  replace a3 := Lib.hid a3
  replace a4 := Lib.hid a4
  go_enter Tryz.func13, Tryz.ntmps13
  go_wp2_with (fail)
  generalize hwz : ((((w.alloc (.cells #[.int .i64 f1.W, .int .i64 f1.H, .slice f1.A f1.l.length f1.c] 24)).alloc (.cells #[.int .i64 f2.W, .int .i64 f2.H, .slice f2.A f2.l.length f2.c] 24)).alloc (.cells #[.int .i64 f3.W, .int .i64 f3.H, .slice f3.A f3.l.length f3.c] 24)).alloc (.cells #[.int .i64 f4.W, .int .i64 f4.H, .slice f4.A f4.l.length f4.c] 24)).alloc (.cells #[.int .i64 0, .int .i64 0, .slice none 0 0] 24) = wz at *
  have I : Hid (B5 w wz B f1 f2 f3 f4) := by rw [← hwz]; exact B5.start ok1.out ok2.out ok3.out ok4.out
  clear hwz ok1 ok2 ok3 ok4
  obtain ⟨q00, q01, q02, q10, q11, q12, q20, q21, q22, q30, q31, q32⟩ := I.out.cells
  refine (rccheck_any f1.W f1.H f1.A f1.l f1.c B _ I.out.o1.sl).mono ?_
  rintro e w1 ⟨rfl, hb⟩
  clear q00 q01 q02 q10 q11 q12 q20 q21 q22 q30 q31 q32
  replace I := Lib.hid (I.out.carry hb)
  clear hb
  obtain ⟨q00, q01, q02, q10, q11, q12, q20, q21, q22, q30, q31, q32⟩ := I.out.cells
  go_wp2_with fail
  refine (rccheck_any f2.W f2.H f2.A f2.l f2.c B _ I.out.o2.sl).mono ?_
  rintro e w2 ⟨rfl, hb⟩
  clear q00 q01 q02 q10 q11 q12 q20 q21 q22 q30 q31 q32
  replace I := Lib.hid (I.out.carry hb)
  clear hb
  obtain ⟨q00, q01, q02, q10, q11, q12, q20, q21, q22, q30, q31, q32⟩ := I.out.cells
  go_wp2_with fail
  refine (rccheck_any f3.W f3.H f3.A f3.l f3.c B _ I.out.o3.sl).mono ?_
  rintro e w3 ⟨rfl, hb⟩
  clear q00 q01 q02 q10 q11 q12 q20 q21 q22 q30 q31 q32
  replace I := Lib.hid (I.out.carry hb)
  clear hb
  obtain ⟨q00, q01, q02, q10, q11, q12, q20, q21, q22, q30, q31, q32⟩ := I.out.cells
  go_wp2_with fail
  refine (rccheck_any f4.W f4.H f4.A f4.l f4.c B _ I.out.o4.sl).mono ?_
  rintro e w4 ⟨rfl, hb⟩
  clear q00 q01 q02 q10 q11 q12 q20 q21 q22 q30 q31 q32
  replace I := Lib.hid (I.out.carry hb)
  clear hb
  obtain ⟨q00, q01, q02, q10, q11, q12, q20, q21, q22, q30, q31, q32⟩ := I.out.cells
  go_wp2_with fail
  refine (ralike_any f1 f2 _).mono ?_
  rw [a2.out]
  rintro e w5 ⟨rfl, hb⟩
  clear q00 q01 q02 q10 q11 q12 q20 q21 q22 q30 q31 q32
  replace I := Lib.hid (I.out.carry hb)
  clear hb
  obtain ⟨q00, q01, q02, q10, q11, q12, q20, q21, q22, q30, q31, q32⟩ := I.out.cells
  go_wp2_with fail
  refine (ralike_any f1 f3 _).mono ?_
  rw [a3.out]
  rintro e w6 ⟨rfl, hb⟩
  clear q00 q01 q02 q10 q11 q12 q20 q21 q22 q30 q31 q32
  replace I := Lib.hid (I.out.carry hb)
  clear hb
  obtain ⟨q00, q01, q02, q10, q11, q12, q20, q21, q22, q30, q31, q32⟩ := I.out.cells
  go_wp2_with fail
  refine (ralike_any f1 f4 _).mono ?_
  rw [a4.out]
  rintro e w7 ⟨rfl, hb⟩
  clear q00 q01 q02 q10 q11 q12 q20 q21 q22 q30 q31 q32
  replace I := Lib.hid (I.out.carry hb)
  clear hb
  obtain ⟨q00, q01, q02, q10, q11, q12, q20, q21, q22, q30, q31, q32⟩ := I.out.cells
  obtain ⟨qo0, qo1, qo2, z0, z1, z2⟩ := I.out.outs
  go_wp2
  exact bodyPost_ret (v := .tuple #[.agg #[.int .i64 0, .int .i64 0, .slice none 0 0], .slice none 0 0, .int .i64 2]) (by simp [results, Tryz.results13, go_sem, qo0, qo1, qo2]) rfl (apR_err rfl (I.out.fin _ _ _))

set_option maxRecDepth 100000 in
set_option maxHeartbeats 8000000 in
theorem rap2_5 (f1 f2 f3 f4 : FD) (E D : Int) (B : Nat) (w : World) (ok1 : OkD w B f1) (ok2 : OkD w B f2) (ok3 : OkD w B f3) (ok4 : OkD w B f4) (c1 : f1.chk = 0) (c2 : f2.chk = 0) (c3 : f3.chk = 0) (c4 : f4.chk = 0) (a2 : aliB f1 f2 = true) (a3 : aliB f1 f3 = true) (a4 : aliB f1 f4 = true) (g0 : E < 0) :
    Calls Tryz.prog 13 #[.agg #[.int .i64 f1.W, .int .i64 f1.H, .slice f1.A f1.l.length f1.c], .agg #[.int .i64 f2.W, .int .i64 f2.H, .slice f2.A f2.l.length f2.c], .agg #[.int .i64 f3.W, .int .i64 f3.H, .slice f3.A f3.l.length f3.c], .agg #[.int .i64 f4.W, .int .i64 f4.H, .slice f4.A f4.l.length f4.c], .int .i64 E, .int .i64 D] w (ApR ⟨0, 0, [], [], 2⟩ w) := by
  have ok1 := Lib.hid ok1
  have ok2 := Lib.hid ok2
  have ok3 := Lib.hid ok3
  have ok4 := Lib.hid ok4
  have t1 : (fchk f1.W f1.H f1.l != 0) = false := by rw [show fchk f1.W f1.H f1.l = 0 from c1]; rfl
  clear c1
  have t2 : (fchk f2.W f2.H f2.l != 0) = false := by rw [show fchk f2.W f2.H f2.l = 0 from c2]; rfl
  clear c2
  have t3 : (fchk f3.W f3.H f3.l != 0) = false := by rw [show fchk f3.W f3.H f3.l = 0 from c3]; rfl
  clear c3
  have t4 : (fchk f4.W f4.H f4.l != 0) = false := by rw [show fchk f4.W f4.H f4.l = 0 from c4]; rfl
  clear c4
  replace a2 := Lib.hid a2
  replace a3 := Lib.hid a3
  replace a4 := Lib.hid a4
  have u0 : decide (E < 0) = true := decide_eq_true g0
  clear g0
  go_enter Tryz.func13, Tryz.ntmps13
  go_wp2_with (fail)
  generalize hwz : ((((w.alloc (.cells #[.int .i64 f1.W, .int .i64 f1.H, .slice f1.A f1.l.length f1.c] 24)).alloc (.cells #[.int .i64 f2.W, .int .i64 f2.H, .slice f2.A f2.l.length f2.c] 24)).alloc (.cells #[.int .i64 f3.W, .int .i64 f3.H, .slice f3.A f3.l.length f3.c] 24)).alloc (.cells #[.int .i64 f4.W, .int .i64 f4.H, .slice f4.A f4.l.length f4.c] 24)).alloc (.cells #[.int .i64 0, .int .i64 0, .slice none 0 0] 24) = wz at *
  have I : Hid (B5 w wz B f1 f2 f3 f4) := by rw [← hwz]; exact B5.start ok1.out ok2.out ok3.out ok4.out
  clear hwz ok1 ok2 ok3 ok4
  obtain ⟨q00, q01, q02, q10, q11, q12, q20, q21, q22, q30, q31, q32⟩ := I.out.cells
  refine (rccheck_any f1.W f1.H f1.A f1.l f1.c B _ I.out.o1.sl).mono ?_
  rintro e w1 ⟨rfl, hb⟩
  clear q00 q01 q02 q10 q11 q12 q20 q21 q22 q30 q31 q32
  replace I := Lib.hid (I.out.carry hb)
  clear hb
  obtain ⟨q00, q01, q02, q10, q11, q12, q20, q21, q22, q30, q31, q32⟩ := I.out.cells
  go_wp2_with fail
  refine (rccheck_any f2.W f2.H f2.A f2.l f2.c B _ I.out.o2.sl).mono ?_
  rintro e w2 ⟨rfl, hb⟩
  clear q00 q01 q02 q10 q11 q12 q20 q21 q22 q30 q31 q32
  replace I := Lib.hid (I.out.carry hb)
  clear hb
  obtain ⟨q00, q01, q02, q10, q11, q12, q20, q21, q22, q30, q31, q32⟩ := I.out.cells
  go_wp2_with fail
  refine (rccheck_any f3.W f3.H f3.A f3.l f3.c B _ I.out.o3.sl).mono ?_
  rintro e w3 ⟨rfl, hb⟩
  clear q00 q01 q02 q10 q11 q12 q20 q21 q22 q30 q31 q32
  replace I := Lib.hid (I.out.carry hb)
  clear hb
  obtain ⟨q00, q01, q02, q10, q11, q12, q20, q21, q22, q30, q31, q32⟩ := I.out.cells
  go_wp2_with fail
  refine (rccheck_any f4.W f4.H f4.A f4.l f4.c B _ I.out.o4.sl).mono ?_
  rintro e w4 ⟨rfl, hb⟩
  clear q00 q01 q02 q10 q11 q12 q20 q21 q22 q30 q31 q32
  replace I := Lib.hid (I.out.carry hb)
  clear hb
  obtain ⟨q00, q01, q02, q10, q11, q12, q20, q21, q22, q30, q31, q32⟩ := I.out.cells
  go_wp2_with fail
  refine (ralike_any f1 f2 _).mono ?_
  rw [a2.out]
  rintro e w5 ⟨rfl, hb⟩
  clear q00 q01 q02 q10 q11 q12 q20 q21 q22 q30 q31 q32
  replace I := Lib.hid (I.out.carry hb)
  clear hb
  obtain ⟨q00, q01, q02, q10, q11, q12, q20, q21, q22, q30, q31, q32⟩ := I.out.cells
  go_wp2_with fail
  refine (ralike_any f1 f3 _).mono ?_
  rw [a3.out]
  rintro e w6 ⟨rfl, hb⟩
  clear q00 q01 q02 q10 q11 q12 q20 q21 q22 q30 q31 q32
  replace I := Lib.hid (I.out.carry hb)
  clear hb
  obtain ⟨q00, q01, q02, q10, q11, q12, q20, q21, q22, q30, q31, q32⟩ := I.out.cells
  go_wp2_with fail
  refine (ralike_any f1 f4 _).mono ?_
  rw [a4.out]
  rintro e w7 ⟨rfl, hb⟩
  clear q00 q01 q02 q10 q11 q12 q20 q21 q22 q30 q31 q32
  replace I := Lib.hid (I.out.carry hb)
  clear hb
  obtain ⟨q00, q01, q02, q10, q11, q12, q20, q21, q22, q30, q31, q32⟩ := I.out.cells
  obtain ⟨qo0, qo1, qo2, z0, z1, z2⟩ := I.out.outs
  go_wp2
  exact bodyPost_ret (v := .tuple #[.agg #[.int .i64 0, .int .i64 0, .slice none 0 0], .slice none 0 0, .int .i64 2]) (by simp [results, Tryz.results13, go_sem, qo0, qo1, qo2]) rfl (apR_err rfl (I.out.fin _ _ _))

set_option maxRecDepth 100000 in
set_option maxHeartbeats 8000000 in
theorem rap2_6 (f1 f2 f3 f4 : FD) (E D : Int) (B : Nat) (w : World) (ok1 : OkD w B f1) (ok2 : OkD w B f2) (ok3 : OkD w B f3) (ok4 : OkD w B f4) (c1 : f1.chk = 0) (c2 : f2.chk = 0) (c3 : f3.chk = 0) (c4 : f4.chk = 0) (a2 : aliB f1 f2 = true) (a3 : aliB f1 f3 = true) (a4 : aliB f1 f4 = true) (g1 : 1000000 < E) :
    Calls Tryz.prog 13 #[.agg #[.int .i64 f1.W, .int .i64 f1.H, .slice f1.A f1.l.length f1.c], .agg #[.int .i64 f2.W, .int .i64 f2.H, .slice f2.A f2.l.length f2.c], .agg #[.int .i64 f3.W, .int .i64 f3.H, .slice f3.A f3.l.length f3.c], .agg #[.int .i64 f4.W, .int .i64 f4.H, .slice f4.A f4.l.length f4.c], .int .i64 E, .int .i64 D] w (ApR ⟨0, 0, [], [], 2⟩ w) := by
  have ok1 := Lib.hid ok1
  have ok2 := Lib.hid ok2
  have ok3 := Lib.hid ok3
  have ok4 := Lib.hid ok4
  have t1 : (fchk f1.W f1.H f1.l != 0) = false := by rw [show fchk f1.W f1.H f1.l = 0 from c1]; rfl
  clear c1
  have t2 : (fchk f2.W f2.H f2.l != 0) = false := by rw [show fchk f2.W f2.H f2.l = 0 from c2]; rfl
  clear c2
  have t3 : (fchk f3.W f3.H f3.l != 0) = false := by rw [show fchk f3.W f3.H f3.l = 0 from c3]; rfl
  clear c3
  have t4 : (fchk f4.W f4.H f4.l != 0) = false := by rw [show fchk f4.W f4.H f4.l = 0 from c4]; rfl
  clear c4
  replace a2 := Lib.hid a2
  replace a3 := Lib.hid a3
  replace a4 := Lib.hid a4
  have u0 : decide (E < 0) = false := decide_eq_false (by omega)
  have u1 : decide (1000000 < E) = true := decide_eq_true g1
  clear g1
  go_enter Tryz.func13, Tryz.ntmps13
  go_wp2_with (fail)
  generalize hwz : ((((w.alloc (.cells #[.int .i64 f1.W, .int .i64 f1.H, .slice f1.A f1.l.length f1.c] 24)).alloc (.cells #[.int .i64 f2.W, .int .i64 f2.H, .slice f2.A f2.l.length f2.c] 24)).alloc (.cells #[.int .i64 f3.W, .int .i64 f3.H, .slice f3.A f3.l.length f3.c] 24)).alloc (.cells #[.int .i64 f4.W, .int .i64 f4.H, .slice f4.A f4.l.length f4.c] 24)).alloc (.cells #[.int .i64 0, .int .i64 0, .slice none 0 0] 24) = wz at *
  have I : Hid (B5 w wz B f1 f2 f3 f4) := by rw [← hwz]; exact B5.start ok1.out ok2.out ok3.out ok4.out
  clear hwz ok1 ok2 ok3 ok4
  obtain ⟨q00, q01, q02, q10, q11, q12, q20, q21, q22, q30, q31, q32⟩ := I.out.cells
  refine (rccheck_any f1.W f1.H f1.A f1.l f1.c B _ I.out.o1.sl).mono ?_
  rintro e w1 ⟨rfl, hb⟩
  clear q00 q01 q02 q10 q11 q12 q20 q21 q22 q30 q31 q32
  replace I := Lib.hid (I.out.carry hb)
  clear hb
  obtain ⟨q00, q01, q02, q10, q11, q12, q20, q21, q22, q30, q31, q32⟩ := I.out.cells
  go_wp2_with fail
  refine (rccheck_any f2.W f2.H f2.A f2.l f2.c B _ I.out.o2.sl).mono ?_
  rintro e w2 ⟨rfl, hb⟩
  clear q00 q01 q02 q10 q11 q12 q20 q21 q22 q30 q31 q32
  replace I := Lib.hid (I.out.carry hb)
  clear hb
  obtain ⟨q00, q01, q02, q10, q11, q12, q20, q21, q22, q30, q31, q32⟩ := I.out.cells
  go_wp2_with fail
  refine (rccheck_any f3.W f3.H f3.A f3.l f3.c B _ I.out.o3.sl).mono ?_
  rintro e w3 ⟨rfl, hb⟩
  clear q00 q01 q02 q10 q11 q12 q20 q21 q22 q30 q31 q32
  replace I := Lib.hid (I.out.carry hb)
  clear hb
  obtain ⟨q00, q01, q02, q10, q11, q12, q20, q21, q22, q30, q31, q32⟩ := I.out.cells
  go_wp2_with fail
  refine (rccheck_any f4.W f4.H f4.A f4.l f4.c B _ I.out.o4.sl).mono ?_
  rintro e w4 ⟨rfl, hb⟩
  clear q00 q01 q02 q10 q11 q12 q20 q21 q22 q30 q31 q32
  replace I := Lib.hid (I.out.carry hb)
  clear hb
  obtain ⟨q00, q01, q02, q10, q11, q12, q20, q21, q22, q30, q31, q32⟩ := I.out.cells
  go_wp2_with fail
  refine (ralike_any f1 f2 _).mono ?_
  rw [a2.out]
  rintro e w5 ⟨rfl, hb⟩
  clear q00 q01 q02 q10 q11 q12 q20 q21 q22 q30 q31 q32
  replace I := Lib.hid (I.out.carry hb)
  clear hb
  obtain ⟨q00, q01, q02, q10, q11, q12, q20, q21, q22, q30, q31, q32⟩ := I.out.cells
  go_wp2_with fail
  refine (ralike_any f1 f3 _).mono ?_
  rw [a3.out]
  rintro e w6 ⟨rfl, hb⟩
  clear q00 q01 q02 q10 q11 q12 q20 q21 q22 q30 q31 q32
  replace I := Lib.hid (I.out.carry hb)
  clear hb
  obtain ⟨q00, q01, q02, q10, q11, q12, q20, q21, q22, q30, q31, q32⟩ := I.out.cells
  go_wp2_with fail
  refine (ralike_any f1 f4 _).mono ?_
  rw [a4.out]
  rintro e w7 ⟨rfl, hb⟩
  clear q00 q01 q02 q10 q11 q12 q20 q21 q22 q30 q31 q32
  replace I := Lib.hid (I.out.carry hb)
  clear hb
  obtain ⟨q00, q01, q02, q10, q11, q12, q20, q21, q22, q30, q31, q32⟩ := I.out.cells
  obtain ⟨qo0, qo1, qo2, z0, z1, z2⟩ := I.out.outs
  go_wp2
  exact bodyPost_ret (v := .tuple #[.agg #[.int .i64 0, .int .i64 0, .slice none 0 0], .slice none 0 0, .int .i64 2]) (by simp [results, Tryz.results13, go_sem, qo0, qo1, qo2]) rfl (apR_err rfl (I.out.fin _ _ _))

set_option maxRecDepth 100000 in
set_option maxHeartbeats 8000000 in
theorem rap2_7 (f1 f2 f3 f4 : FD) (E D : Int) (B : Nat) (w : World) (ok1 : OkD w B f1) (ok2 : OkD w B f2) (ok3 : OkD w B f3) (ok4 : OkD w B f4) (c1 : f1.chk = 0) (c2 : f2.chk = 0) (c3 : f3.chk = 0) (c4 : f4.chk = 0) (a2 : aliB f1 f2 = true) (a3 : aliB f1 f3 = true) (a4 : aliB f1 f4 = true) (g0 : 0 ≤ E) (g1 : E ≤ 1000000) (g2 : D < 1) :
    Calls Tryz.prog 13 #[.agg #[.int .i64 f1.W, .int .i64 f1.H, .slice f1.A f1.l.length f1.c], .agg #[.int .i64 f2.W, .int .i64 f2.H, .slice f2.A f2.l.length f2.c], .agg #[.int .i64 f3.W, .int .i64 f3.H, .slice f3.A f3.l.length f3.c], .agg #[.int .i64 f4.W, .int .i64 f4.H, .slice f4.A f4.l.length f4.c], .int .i64 E, .int .i64 D] w (ApR ⟨0, 0, [], [], 2⟩ w) := by
  have ok1 := Lib.hid ok1
  have ok2 := Lib.hid ok2
  have ok3 := Lib.hid ok3
  have ok4 := Lib.hid ok4
  have t1 : (fchk f1.W f1.H f1.l != 0) = false := by rw [show fchk f1.W f1.H f1.l = 0 from c1]; rfl
  clear c1
  have t2 : (fchk f2.W f2.H f2.l != 0) = false := by rw [show fchk f2.W f2.H f2.l = 0 from c2]; rfl
  clear c2
  have t3 : (fchk f3.W f3.H f3.l != 0) = false := by rw [show fchk f3.W f3.H f3.l = 0 from c3]; rfl
  clear c3
  have t4 : (fchk f4.W f4.H f4.l != 0) = false := by rw [show fchk f4.W f4.H f4.l = 0 from c4]; rfl
  clear c4
  replace a2 := Lib.hid a2
  replace a3 := Lib.hid a3
  replace a4 := Lib.hid a4
  have u0 : decide (E < 0) = false := decide_eq_false (by omega)
  have u1 : decide (1000000 < E) = false := decide_eq_false (by omega)
  have u2 : decide (D < 1) = true := decide_eq_true g2
  clear g0 g1 g2
  go_enter Tryz.func13, Tryz.ntmps13
  go_wp2_with (fail)
  generalize hwz : ((((w.alloc (.cells #[.int .i64 f1.W, .int .i64 f1.H, .slice f1.A f1.l.length f1.c] 24)).alloc (.cells #[.int .i64 f2.W, .int .i64 f2.H, .slice f2.A f2.l.length f2.c] 24)).alloc (.cells #[.int .i64 f3.W, .int .i64 f3.H, .slice f3.A f3.l.length f3.c] 24)).alloc (.cells #[.int .i64 f4.W, .int .i64 f4.H, .slice f4.A f4.l.length f4.c] 24)).alloc (.cells #[.int .i64 0, .int .i64 0, .slice none 0 0] 24) = wz at *
  have I : Hid (B5 w wz B f1 f2 f3 f4) := by rw [← hwz]; exact B5.start ok1.out ok2.out ok3.out ok4.out
  clear hwz ok1 ok2 ok3 ok4
  obtain ⟨q00, q01, q02, q10, q11, q12, q20, q21, q22, q30, q31, q32⟩ := I.out.cells
  refine (rccheck_any f1.W f1.H f1.A f1.l f1.c B _ I.out.o1.sl).mono ?_
  rintro e w1 ⟨rfl, hb⟩
  clear q00 q01 q02 q10 q11 q12 q20 q21 q22 q30 q31 q32
  replace I := Lib.hid (I.out.carry hb)
  clear hb
  obtain ⟨q00, q01, q02, q10, q11, q12, q20, q21, q22, q30, q31, q32⟩ := I.out.cells
  go_wp2_with fail
  refine (rccheck_any f2.W f2.H f2.A f2.l f2.c B _ I.out.o2.sl).mono ?_
  rintro e w2 ⟨rfl, hb⟩
  clear q00 q01 q02 q10 q11 q12 q20 q21 q22 q30 q31 q32
  replace I := Lib.hid (I.out.carry hb)
  clear hb
  obtain ⟨q00, q01, q02, q10, q11, q12, q20, q21, q22, q30, q31, q32⟩ := I.out.cells
  go_wp2_with fail
  refine (rccheck_any f3.W f3.H f3.A f3.l f3.c B _ I.out.o3.sl).mono ?_
  rintro e w3 ⟨rfl, hb⟩
  clear q00 q01 q02 q10 q11 q12 q20 q21 q22 q30 q31 q32
  replace I := Lib.hid (I.out.carry hb)
  clear hb
  obtain ⟨q00, q01, q02, q10, q11, q12, q20, q21, q22, q30, q31, q32⟩ := I.out.cells
  go_wp2_with fail
  refine (rccheck_any f4.W f4.H f4.A f4.l f4.c B _ I.out.o4.sl).mono ?_
  rintro e w4 ⟨rfl, hb⟩
  clear q00 q01 q02 q10 q11 q12 q20 q21 q22 q30 q31 q32
  replace I := Lib.hid (I.out.carry hb)
  clear hb
  obtain ⟨q00, q01, q02, q10, q11, q12, q20, q21, q22, q30, q31, q32⟩ := I.out.cells
  go_wp2_with fail
  refine (ralike_any f1 f2 _).mono ?_
  rw [a2.out]
  rintro e w5 ⟨rfl, hb⟩
  clear q00 q01 q02 q10 q11 q12 q20 q21 q22 q30 q31 q32
  replace I := Lib.hid (I.out.carry hb)
  clear hb
  obtain ⟨q00, q01, q02, q10, q11, q12, q20, q21, q22, q30, q31, q32⟩ := I.out.cells
  go_wp2_with fail
  refine (ralike_any f1 f3 _).mono ?_
  rw [a3.out]
  rintro e w6 ⟨rfl, hb⟩
  clear q00 q01 q02 q10 q11 q12 q20 q21 q22 q30 q31 q32
  replace I := Lib.hid (I.out.carry hb)
  clear hb
  obtain ⟨q00, q01, q02, q10, q11, q12, q20, q21, q22, q30, q31, q32⟩ := I.out.cells
  go_wp2_with fail
  refine (ralike_any f1 f4 _).mono ?_
  rw [a4.out]
  rintro e w7 ⟨rfl, hb⟩
  clear q00 q01 q02 q10 q11 q12 q20 q21 q22 q30 q31 q32
  replace I := Lib.hid (I.out.carry hb)
  clear hb
  obtain ⟨q00, q01, q02, q10, q11, q12, q20, q21, q22, q30, q31, q32⟩ := I.out.cells
  obtain ⟨qo0, qo1, qo2, z0, z1, z2⟩ := I.out.outs
  go_wp2
  exact bodyPost_ret (v := .tuple #[.agg #[.int .i64 0, .int .i64 0, .slice none 0 0], .slice none 0 0, .int .i64 2]) (by simp [results, Tryz.results13, go_sem, qo0, qo1, qo2]) rfl (apR_err rfl (I.out.fin _ _ _))

set_option maxRecDepth 100000 in
set_option maxHeartbeats 8000000 in
theorem rap2_8 (f1 f2 f3 f4 : FD) (E D : Int) (B : Nat) (w : World) (ok1 : OkD w B f1) (ok2 : OkD w B f2) (ok3 : OkD w B f3) (ok4 : OkD w B f4) (c1 : f1.chk = 0) (c2 : f2.chk = 0) (c3 : f3.chk = 0) (c4 : f4.chk = 0) (a2 : aliB f1 f2 = true) (a3 : aliB f1 f3 = true) (a4 : aliB f1 f4 = true) (g0 : 0 ≤ E) (g1 : E ≤ 1000000) (g3 : 1000000 < D) :
    Calls Tryz.prog 13 #[.agg #[.int .i64 f1.W, .int .i64 f1.H, .slice f1.A f1.l.length f1.c], .agg #[.int .i64 f2.W, .int .i64 f2.H, .slice f2.A f2.l.length f2.c], .agg #[.int .i64 f3.W, .int .i64 f3.H, .slice f3.A f3.l.length f3.c], .agg #[.int .i64 f4.W, .int .i64 f4.H, .slice f4.A f4.l.length f4.c], .int .i64 E, .int .i64 D] w (ApR ⟨0, 0, [], [], 2⟩ w) := by
  have ok1 := Lib.hid ok1
  have ok2 := Lib.hid ok2
  have ok3 := Lib.hid ok3
  have ok4 := Lib.hid ok4
  have t1 : (fchk f1.W f1.H f1.l != 0) = false := by rw [show fchk f1.W f1.H f1.l = 0 from c1]; rfl
  clear c1
  have t2 : (fchk f2.W f2.H f2.l != 0) = false := by rw [show fchk f2.W f2.H f2.l = 0 from c2]; rfl
  clear c2
  have t3 : (fchk f3.W f3.H f3.l != 0) = false := by rw [show fchk f3.W f3.H f3.l = 0 from c3]; rfl
  clear c3
  have t4 : (fchk f4.W f4.H f4.l != 0) = false := by rw [show fchk f4.W f4.H f4.l = 0 from c4]; rfl
  clear c4
  replace a2 := Lib.hid a2
  replace a3 := Lib.hid a3
  replace a4 := Lib.hid a4
  have u0 : decide (E < 0) = false := decide_eq_false (by omega)
  have u1 : decide (1000000 < E) = false := decide_eq_false (by omega)
  have u2 : decide (D < 1) = false := decide_eq_false (by omega)
  have u3 : decide (1000000 < D) = true := decide_eq_true g3
  clear g0 g1 g3
  go_enter Tryz.func13, Tryz.ntmps13
  go_wp2_with (fail)
  generalize hwz : ((((w.alloc (.cells #[.int .i64 f1.W, .int .i64 f1.H, .slice f1.A f1.l.length f1.c] 24)).alloc (.cells #[.int .i64 f2.W, .int .i64 f2.H, .slice f2.A f2.l.length f2.c] 24)).alloc (.cells #[.int .i64 f3.W, .int .i64 f3.H, .slice f3.A f3.l.length f3.c] 24)).alloc (.cells #[.int .i64 f4.W, .int .i64 f4.H, .slice f4.A f4.l.length f4.c] 24)).alloc (.cells #[.int .i64 0, .int .i64 0, .slice none 0 0] 24) = wz at *
  have I : Hid (B5 w wz B f1 f2 f3 f4) := by rw [← hwz]; exact B5.start ok1.out ok2.out ok3.out ok4.out
  clear hwz ok1 ok2 ok3 ok4
  obtain ⟨q00, q01, q02, q10, q11, q12, q20, q21, q22, q30, q31, q32⟩ := I.out.cells
  refine (rccheck_any f1.W f1.H f1.A f1.l f1.c B _ I.out.o1.sl).mono ?_
  rintro e w1 ⟨rfl, hb⟩
  clear q00 q01 q02 q10 q11 q12 q20 q21 q22 q30 q31 q32
  replace I := Lib.hid (I.out.carry hb)
  clear hb
  obtain ⟨q00, q01, q02, q10, q11, q12, q20, q21, q22, q30, q31, q32⟩ := I.out.cells
  go_wp2_with fail
  refine (rccheck_any f2.W f2.H f2.A f2.l f2.c B _ I.out.o2.sl).mono ?_
  rintro e w2 ⟨rfl, hb⟩
  clear q00 q01 q02 q10 q11 q12 q20 q21 q22 q30 q31 q32
  replace I := Lib.hid (I.out.carry hb)
  clear hb
  obtain ⟨q00, q01, q02, q10, q11, q12, q20, q21, q22, q30, q31, q32⟩ := I.out.cells
  go_wp2_with fail
  refine (rccheck_any f3.W f3.H f3.A f3.l f3.c B _ I.out.o3.sl).mono ?_
  rintro e w3 ⟨rfl, hb⟩
  clear q00 q01 q02 q10 q11 q12 q20 q21 q22 q30 q31 q32
  replace I := Lib.hid (I.out.carry hb)
  clear hb
  obtain ⟨q00, q01, q02, q10, q11, q12, q20, q21, q22, q30, q31, q32⟩ := I.out.cells
  go_wp2_with fail
  refine (rccheck_any f4.W f4.H f4.A f4.l f4.c B _ I.out.o4.sl).mono ?_
  rintro e w4 ⟨rfl, hb⟩
  clear q00 q01 q02 q10 q11 q12 q20 q21 q22 q30 q31 q32
  replace I := Lib.hid (I.out.carry hb)
  clear hb
  obtain ⟨q00, q01, q02, q10, q11, q12, q20, q21, q22, q30, q31, q32⟩ := I.out.cells
  go_wp2_with fail
  refine (ralike_any f1 f2 _).mono ?_
  rw [a2.out]
  rintro e w5 ⟨rfl, hb⟩
  clear q00 q01 q02 q10 q11 q12 q20 q21 q22 q30 q31 q32
  replace I := Lib.hid (I.out.carry hb)
  clear hb
  obtain ⟨q00, q01, q02, q10, q11, q12, q20, q21, q22, q30, q31, q32⟩ := I.out.cells
  go_wp2_with fail
  refine (ralike_any f1 f3 _).mono ?_
  rw [a3.out]
  rintro e w6 ⟨rfl, hb⟩
  clear q00 q01 q02 q10 q11 q12 q20 q21 q22 q30 q31 q32
  replace I := Lib.hid (I.out.carry hb)
  clear hb
  obtain ⟨q00, q01, q02, q10, q11, q12, q20, q21, q22, q30, q31, q32⟩ := I.out.cells
  go_wp2_with fail
  refine (ralike_any f1 f4 _).mono ?_
  rw [a4.out]
  rintro e w7 ⟨rfl, hb⟩
  clear q00 q01 q02 q10 q11 q12 q20 q21 q22 q30 q31 q32
  replace I := Lib.hid (I.out.carry hb)
  clear hb
  obtain ⟨q00, q01, q02, q10, q11, q12, q20, q21, q22, q30, q31, q32⟩ := I.out.cells
  obtain ⟨qo0, qo1, qo2, z0, z1, z2⟩ := I.out.outs
  go_wp2
  exact bodyPost_ret (v := .tuple #[.agg #[.int .i64 0, .int .i64 0, .slice none 0 0], .slice none 0 0, .int .i64 2]) (by simp [results, Tryz.results13, go_sem, qo0, qo1, qo2]) rfl (apR_err rfl (I.out.fin _ _ _))

set_option maxRecDepth 100000 in
set_option maxHeartbeats 8000000 in
theorem rap18 (f1 f2 f3 f4 : FD) (E D : Int) (B : Nat) (w : World) (ok1 : OkD w B f1) (ok2 : OkD w B f2) (ok3 : OkD w B f3) (ok4 : OkD w B f4) (c1 : f1.chk = 0) (c2 : f2.chk = 0) (c3 : f3.chk = 0) (c4 : f4.chk = 0) (a2 : aliB f1 f2 = true) (a3 : aliB f1 f3 = true) (a4 : aliB f1 f4 = true) (g0 : 0 ≤ E) (g1 : E ≤ 1000000) (g2 : 1 ≤ D) (g3 : D ≤ 1000000) (hn : cntP true f4.l = 0) :
    Calls Tryz.prog 13 #[.agg #[.int .i64 f1.W, .int .i64 f1.H, .slice f1.A f1.l.length f1.c], .agg #[.int .i64 f2.W, .int .i64 f2.H, .slice f2.A f2.l.length f2.c], .agg #[.int .i64 f3.W, .int .i64 f3.H, .slice f3.A f3.l.length f3.c], .agg #[.int .i64 f4.W, .int .i64 f4.H, .slice f4.A f4.l.length f4.c], .int .i64 E, .int .i64 D] w (ApR ⟨0, 0, [], [], 18⟩ w) := by
  have ok1 := Lib.hid ok1
  have ok2 := Lib.hid ok2
  have ok3 := Lib.hid ok3
  have ok4 := Lib.hid ok4
  obtain ⟨hbd, hl⟩ := fchk_lim c4
  replace hbd := Lib.hid hbd
  replace hl := Lib.hid hl
  have t1 : (fchk f1.W f1.H f1.l != 0) = false := by rw [show fchk f1.W f1.H f1.l = 0 from c1]; rfl
  clear c1
  have t2 : (fchk f2.W f2.H f2.l != 0) = false := by rw [show fchk f2.W f2.H f2.l = 0 from c2]; rfl
  clear c2
  have t3 : (fchk f3.W f3.H f3.l != 0) = false := by rw [show fchk f3.W f3.H f3.l = 0 from c3]; rfl
  clear c3
  have t4 : (fchk f4.W f4.H f4.l != 0) = false := by rw [show fchk f4.W f4.H f4.l = 0 from c4]; rfl
  clear c4
  replace a2 := Lib.hid a2
  replace a3 := Lib.hid a3
  replace a4 := Lib.hid a4
  have u0 : decide (E < 0) = false := decide_eq_false (by omega)
  have u1 : decide (1000000 < E) = false := decide_eq_false (by omega)
  have u2 : decide (D < 1) = false := decide_eq_false (by omega)
  have u3 : decide (1000000 < D) = false := decide_eq_false (by omega)
  clear g0 g1 g2 g3
  replace hn := Lib.hid hn
  go_enter Tryz.func13, Tryz.ntmps13
  go_wp2_with (fail)
  generalize hwz : ((((w.alloc (.cells #[.int .i64 f1.W, .int .i64 f1.H, .slice f1.A f1.l.length f1.c] 24)).alloc (.cells #[.int .i64 f2.W, .int .i64 f2.H, .slice f2.A f2.l.length f2.c] 24)).alloc (.cells #[.int .i64 f3.W, .int .i64 f3.H, .slice f3.A f3.l.length f3.c] 24)).alloc (.cells #[.int .i64 f4.W, .int .i64 f4.H, .slice f4.A f4.l.length f4.c] 24)).alloc (.cells #[.int .i64 0, .int .i64 0, .slice none 0 0] 24) = wz at *
  have I : Hid (B5 w wz B f1 f2 f3 f4) := by rw [← hwz]; exact B5.start ok1.out ok2.out ok3.out ok4.out
  clear hwz ok1 ok2 ok3 ok4
  obtain ⟨q00, q01, q02, q10, q11, q12, q20, q21, q22, q30, q31, q32⟩ := I.out.cells
  refine (rccheck_any f1.W f1.H f1.A f1.l f1.c B _ I.out.o1.sl).mono ?_
  rintro e w1 ⟨rfl, hb⟩
  clear q00 q01 q02 q10 q11 q12 q20 q21 q22 q30 q31 q32
  replace I := Lib.hid (I.out.carry hb)
  clear hb
  obtain ⟨q00, q01, q02, q10, q11, q12, q20, q21, q22, q30, q31, q32⟩ := I.out.cells
  go_wp2_with fail
  refine (rccheck_any f2.W f2.H f2.A f2.l f2.c B _ I.out.o2.sl).mono ?_
  rintro e w2 ⟨rfl, hb⟩
  clear q00 q01 q02 q10 q11 q12 q20 q21 q22 q30 q31 q32
  replace I := Lib.hid (I.out.carry hb)
  clear hb
  obtain ⟨q00, q01, q02, q10, q11, q12, q20, q21, q22, q30, q31, q32⟩ := I.out.cells
  go_wp2_with fail
  refine (rccheck_any f3.W f3.H f3.A f3.l f3.c B _ I.out.o3.sl).mono ?_
  rintro e w3 ⟨rfl, hb⟩
  clear q00 q01 q02 q10 q11 q12 q20 q21 q22 q30 q31 q32
  replace I := Lib.hid (I.out.carry hb)
  clear hb
  obtain ⟨q00, q01, q02, q10, q11, q12, q20, q21, q22, q30, q31, q32⟩ := I.out.cells
  go_wp2_with fail
  refine (rccheck_any f4.W f4.H f4.A f4.l f4.c B _ I.out.o4.sl).mono ?_
  rintro e w4 ⟨rfl, hb⟩
  clear q00 q01 q02 q10 q11 q12 q20 q21 q22 q30 q31 q32
  replace I := Lib.hid (I.out.carry hb)
  clear hb
  obtain ⟨q00, q01, q02, q10, q11, q12, q20, q21, q22, q30, q31, q32⟩ := I.out.cells
  go_wp2_with fail
  refine (ralike_any f1 f2 _).mono ?_
  rw [a2.out]
  rintro e w5 ⟨rfl, hb⟩
  clear q00 q01 q02 q10 q11 q12 q20 q21 q22 q30 q31 q32
  replace I := Lib.hid (I.out.carry hb)
  clear hb
  obtain ⟨q00, q01, q02, q10, q11, q12, q20, q21, q22, q30, q31, q32⟩ := I.out.cells
  go_wp2_with fail
  refine (ralike_any f1 f3 _).mono ?_
  rw [a3.out]
  rintro e w6 ⟨rfl, hb⟩
  clear q00 q01 q02 q10 q11 q12 q20 q21 q22 q30 q31 q32
  replace I := Lib.hid (I.out.carry hb)
  clear hb
  obtain ⟨q00, q01, q02, q10, q11, q12, q20, q21, q22, q30, q31, q32⟩ := I.out.cells
  go_wp2_with fail
  refine (ralike_any f1 f4 _).mono ?_
  rw [a4.out]
  rintro e w7 ⟨rfl, hb⟩
  clear q00 q01 q02 q10 q11 q12 q20 q21 q22 q30 q31 q32
  replace I := Lib.hid (I.out.carry hb)
  clear hb
  obtain ⟨q00, q01, q02, q10, q11, q12, q20, q21, q22, q30, q31, q32⟩ := I.out.cells
  go_wp2_with fail
  refine (rtotal_any f4.W f4.H f4.A f4.l f4.c B true hbd.out hl.out _ I.out.o4.sl).mono ?_
  rw [hn.out]
  rintro e w8 ⟨rfl, hb⟩
  clear q00 q01 q02 q10 q11 q12 q20 q21 q22 q30 q31 q32
  replace I := Lib.hid (I.out.carry hb)
  clear hb
  obtain ⟨q00, q01, q02, q10, q11, q12, q20, q21, q22, q30, q31, q32⟩ := I.out.cells
  obtain ⟨qo0, qo1, qo2, z0, z1, z2⟩ := I.out.outs
  go_wp2
  exact bodyPost_ret (v := .tuple #[.agg #[.int .i64 0, .int .i64 0, .slice none 0 0], .slice none 0 0, .int .i64 18]) (by simp [results, Tryz.results13, go_sem, qo0, qo1, qo2]) rfl (apR_err rfl (I.out.fin _ _ _))

end Go.Proofs.YtlekjkljajeodaaGreat

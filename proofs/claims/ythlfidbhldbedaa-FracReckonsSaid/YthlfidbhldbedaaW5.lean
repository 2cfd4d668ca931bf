/- Walks: the reference's Neg and Abs. -/
import Derived.Test.YthlfidbhldbedaaW2
import Derived.Test.YthlfidbhldbedaaMem
namespace Go.Proofs.Ythlfidbhldbedaa
open Go.RowKit
set_option maxHeartbeats 400000 in
theorem rneg_any (neg : Bool) (A : Option Addr) (l : List Nat) (c : Nat) (w : World) (hs : Sl w A l c) :
    Calls Try.prog 56 #[.agg #[.bool neg, .slice A l.length c]] w (WRes (negS neg l) w) := by
  have Hs := Lib.hid hs; clear hs
  cases hbad : badL neg l
  · have hr : negS neg l = outN (!neg) (val l) := by simp [negS, hbad]
    have hc := chk_good hbad
    rw [hr]
    clear hr hbad
    generalize hout : outN (!neg) (val l) = r
    have Hout := Lib.hid hout
    clear hout
    go_enter Try.func56, Try.ntmps56
    go_wp2_with fail
    refine (rcheck_any _ _ _ _ _ ((Hs.out.alloc _).alloc _)).mono ?_
    rintro e w1 ⟨rfl, hb⟩
    have Q : Hid (Cw w1 w.heap.size neg A l.length c) := ⟨kept_cell hb (by go_simp), kept_cell hb (by go_simp)⟩
    have R : Hid (Cw w1 (w.heap.size + 1) false none 0 0) := ⟨kept_cell hb (by go_simp), kept_cell hb (by go_simp)⟩
    have F : Hid (Fw w1 (w.heap.size + 1)) := ⟨(hb.frozen (by simp)).trans (by go_simp), (hb.frozen (by simp)).trans (by go_simp)⟩
    have Hb := Lib.hid (below_mono (blw2 _ _ _) hb)
    have Hs1 := Lib.hid (((Hs.out.alloc _).alloc _).below hb)
    clear hb
    obtain ⟨q0, q1⟩ := Q.out
    go_wp2_with fail
    refine (rmade_any _ _ _ _ _ Hs1.out).mono ?_
    rw [Hout.out]
    rintro e w2 ⟨A2, c2, rfl, hs2, hb2⟩
    clear q0 q1
    obtain ⟨f0, f1⟩ := Fw.keep F.out R.out hb2
    obtain ⟨r0, r1⟩ := Cw.keep R.out hb2
    go_wp2
    exact bodyPost_ret (v := .tuple #[.agg #[.bool r.1.1, .slice A2 r.1.2.length c2], .int .i64 r.2]) (by simp [results, Try.results56, go_sem, r0, r1]) rfl (wres_store hs2 ⟨r0, r1⟩ (below_mono Hb.out hb2) (by omega) _ _)
  · have hr : negS neg l = ((false, []), 8) := by simp [negS, hbad]
    have hc := chk_bad hbad
    rw [hr]
    clear hr hbad
    go_enter Try.func56, Try.ntmps56
    go_wp2_with fail
    refine (rcheck_any _ _ _ _ _ ((Hs.out.alloc _).alloc _)).mono ?_
    rintro e w1 ⟨rfl, hb⟩
    have Q : Hid (Cw w1 w.heap.size neg A l.length c) := ⟨kept_cell hb (by go_simp), kept_cell hb (by go_simp)⟩
    have R : Hid (Cw w1 (w.heap.size + 1) false none 0 0) := ⟨kept_cell hb (by go_simp), kept_cell hb (by go_simp)⟩
    have F : Hid (Fw w1 (w.heap.size + 1)) := ⟨(hb.frozen (by simp)).trans (by go_simp), (hb.frozen (by simp)).trans (by go_simp)⟩
    have Hb := Lib.hid (below_mono (blw2 _ _ _) hb)
    have Hs1 := Lib.hid (((Hs.out.alloc _).alloc _).below hb)
    clear hb
    obtain ⟨q0, q1⟩ := Q.out
    go_wp2_with fail
    refine (rcheck_any _ _ _ _ _ Hs1.out).mono ?_
    rintro e w2 ⟨rfl, hb2⟩
    clear q0 q1
    obtain ⟨f0, f1⟩ := Fw.keep F.out R.out hb2
    obtain ⟨r0, r1⟩ := Cw.keep R.out hb2
    go_wp2
    exact bodyPost_ret (v := .tuple #[.agg #[.bool false, .slice none 0 0], .int .i64 8]) (by simp [results, Try.results56, go_sem, r0, r1]) rfl (wres_store (r := ((false, []), 8)) (Sl.nil _ none 0) ⟨r0, r1⟩ (below_mono Hb.out hb2) (by omega) _ _)

end Go.Proofs.Ythlfidbhldbedaa

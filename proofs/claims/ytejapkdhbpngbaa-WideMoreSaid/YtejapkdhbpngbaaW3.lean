/- Walks: Neg, Abs. -/
import Derived.Test.YtejapkdhbpngbaaW2
import Derived.Test.YtejapkdhbpngbaaMem
namespace Go.Proofs.Ytejapkdhbpngbaa
open Go.RowKit
attribute [local go_sem ↓] Go.wp_at_zero Go.wp_at_succ

theorem Wcs.one {w : World} {b : Nat} {neg : Bool} {A : Option Addr} {l : List Nat} {c : Nat} (hs : Sl w A l c) (hb : b = w.heap.size) : Wcs (w.alloc (.cells #[.bool neg, .slice A l.length c] 24)) b [⟨neg, A, l, c⟩] := by
  subst hb
  intro i v hv
  match i, hv with
  | 0, hv =>
    simp only [List.getElem?_cons_zero, Option.some.injEq] at hv
    subst hv
    exact ⟨by simp, by simp, hs.alloc _⟩
theorem chkW_one (v : WV) : chkW [v] = chk v.neg v.l := rfl

set_option maxHeartbeats 1000000 in
theorem neg_any (neg : Bool) (A : Option Addr) (l : List Nat) (c : Nat) (w : World) (hs : Sl w A l c) :
    Calls Try.prog 9 #[.agg #[.bool neg, .slice A l.length c]] w (WRes (negS neg l) w) := by
  have Hs := Lib.hid hs; clear hs
  cases hbad : badL neg l
  · have hr : negS neg l = outN (!neg) (val l) := by simp [negS, hbad]
    have hc := chk_good hbad
    rw [hr]
    clear hr hbad
    generalize hout : outN (!neg) (val l) = r
    have Hout := Lib.hid hout
    clear hout
    go_enter Try.func9, Try.ntmps9
    go_wp2_with fail
    refine (check_any _ [⟨neg, A, l, c⟩] (by simp) _ ?hc).mono ?_
    case hc => exact Wcs.one ((Hs.out.alloc _).alloc _) (by simp)
    rintro e w1 ⟨rfl, hb⟩
    rw [chkW_one]
    have Q : Hid (Cw w1 w.heap.size neg A l.length c) := ⟨kept_cell hb (by go_simp), kept_cell hb (by go_simp)⟩
    have R : Hid (Cw w1 (w.heap.size + 1) false none 0 0) := ⟨kept_cell hb (by go_simp), kept_cell hb (by go_simp)⟩
    have F : Hid (Fw w1 (w.heap.size + 1)) := ⟨(hb.frozen (by simp)).trans (by go_simp), (hb.frozen (by simp)).trans (by go_simp)⟩
    have Hb := Lib.hid (below_mono (blw3 _ _ _ _) hb)
    have Hs1 := Lib.hid ((((Hs.out.alloc _).alloc _).alloc _).below hb)
    clear hb
    obtain ⟨q0, q1⟩ := Q.out
    go_wp2
    clear q0 q1
    go_region_held3 (fun w' => w'.cell? ⟨w.heap.size, 0, none⟩ = some (.bool neg) ∧ w'.cell? ⟨w.heap.size, 1, none⟩ = some (.slice A l.length c)) (first | exact Q.out | exact Q2 | exact Q3 | exact Cw.setW Q3 (by omega) _ _) (first | (go_at_call 43; refine (clone_any _ _ _ _ Hs1.out.drew).mono ?_; rintro e w2 ⟨A', c', rfl, hown, hb2⟩; have Q2 := Cw.keep Q.out.drew hb2) | (go_at_call 42; refine (made_any _ _ _ _ _ (hown.sl Hs1.out.lim Hs1.out.len)).mono ?_; rw [Hout.out]; rintro e w3 ⟨A2, c2, rfl, hs3, hb3⟩; have Q3 := Cw.keep Q2 hb3; have R3 := Cw.keep (Cw.keep R.out.drew hb2) hb3; obtain ⟨f0, f1⟩ := Fw.keep (Fw.keep F.out.drew R.out.drew hb2) (Cw.keep R.out.drew hb2) hb3; obtain ⟨r0, r1⟩ := R3))
    go_wp2
    exact bodyPost_ret (v := .tuple #[.agg #[.bool r.1.1, .slice A2 r.1.2.length c2], .int .i64 r.2]) (by simp [results, Try.results9, go_sem, r0, r1]) rfl (wres_store hs3 ⟨r0, r1⟩ (below_mono (below_mono Hb.out.drew hb2) hb3) (by omega) _ _)
  · have hr : negS neg l = ((false, []), 8) := by simp [negS, hbad]
    have hc := chk_bad hbad
    rw [hr]
    clear hr hbad
    go_enter Try.func9, Try.ntmps9
    go_wp2_with fail
    refine (check_any _ [⟨neg, A, l, c⟩] (by simp) _ ?hc).mono ?_
    case hc => exact Wcs.one ((Hs.out.alloc _).alloc _) (by simp)
    rintro e w1 ⟨rfl, hb⟩
    rw [chkW_one]
    have R : Hid (Cw w1 (w.heap.size + 1) false none 0 0) := ⟨kept_cell hb (by go_simp), kept_cell hb (by go_simp)⟩
    have F : Hid (Fw w1 (w.heap.size + 1)) := ⟨(hb.frozen (by simp)).trans (by go_simp), (hb.frozen (by simp)).trans (by go_simp)⟩
    have Hb := Lib.hid (below_mono (blw3 _ _ _ _) hb)
    clear hb
    obtain ⟨f0, f1⟩ := F.out
    obtain ⟨r0, r1⟩ := R.out
    go_wp2
    exact bodyPost_ret (v := .tuple #[.agg #[.bool false, .slice none 0 0], .int .i64 8]) (by simp [results, Try.results9, go_sem, r0, r1]) rfl (wres_store (r := ((false, []), 8)) (Sl.nil _ none 0) ⟨r0, r1⟩ Hb.out (by omega) _ _)

set_option maxHeartbeats 1000000 in
theorem abs_any (neg : Bool) (A : Option Addr) (l : List Nat) (c : Nat) (w : World) (hs : Sl w A l c) :
    Calls Try.prog 11 #[.agg #[.bool neg, .slice A l.length c]] w (WRes (absS neg l) w) := by
  have Hs := Lib.hid hs; clear hs
  cases hbad : badL neg l
  · have hr : absS neg l = outN false (val l) := by simp [absS, hbad]
    have hc := chk_good hbad
    rw [hr]
    clear hr hbad
    generalize hout : outN false (val l) = r
    have Hout := Lib.hid hout
    clear hout
    go_enter Try.func11, Try.ntmps11
    go_wp2_with fail
    refine (check_any _ [⟨neg, A, l, c⟩] (by simp) _ ?hc).mono ?_
    case hc => exact Wcs.one ((Hs.out.alloc _).alloc _) (by simp)
    rintro e w1 ⟨rfl, hb⟩
    rw [chkW_one]
    have Q : Hid (Cw w1 w.heap.size neg A l.length c) := ⟨kept_cell hb (by go_simp), kept_cell hb (by go_simp)⟩
    have R : Hid (Cw w1 (w.heap.size + 1) false none 0 0) := ⟨kept_cell hb (by go_simp), kept_cell hb (by go_simp)⟩
    have F : Hid (Fw w1 (w.heap.size + 1)) := ⟨(hb.frozen (by simp)).trans (by go_simp), (hb.frozen (by simp)).trans (by go_simp)⟩
    have Hb := Lib.hid (below_mono (blw3 _ _ _ _) hb)
    have Hs1 := Lib.hid ((((Hs.out.alloc _).alloc _).alloc _).below hb)
    clear hb
    obtain ⟨q0, q1⟩ := Q.out
    go_wp2_with fail
    refine (clone_any _ _ _ _ Hs1.out).mono ?_
    rintro e w2 ⟨A', c', rfl, hown, hb2⟩
    go_wp2_with fail
    refine (made_any _ _ _ _ _ (hown.sl Hs1.out.lim Hs1.out.len)).mono ?_
    rw [Hout.out]
    rintro e w3 ⟨A2, c2, rfl, hs3, hb3⟩
    obtain ⟨f0, f1⟩ := Fw.keep (Fw.keep F.out R.out hb2) (Cw.keep R.out hb2) hb3
    obtain ⟨r0, r1⟩ := Cw.keep (Cw.keep R.out hb2) hb3
    go_wp2
    exact bodyPost_ret (v := .tuple #[.agg #[.bool r.1.1, .slice A2 r.1.2.length c2], .int .i64 r.2]) (by simp [results, Try.results11, go_sem, r0, r1]) rfl (wres_store hs3 ⟨r0, r1⟩ (below_mono (below_mono Hb.out hb2) hb3) (by omega) _ _)
  · have hr : absS neg l = ((false, []), 8) := by simp [absS, hbad]
    have hc := chk_bad hbad
    rw [hr]
    clear hr hbad
    go_enter Try.func11, Try.ntmps11
    go_wp2_with fail
    refine (check_any _ [⟨neg, A, l, c⟩] (by simp) _ ?hc).mono ?_
    case hc => exact Wcs.one ((Hs.out.alloc _).alloc _) (by simp)
    rintro e w1 ⟨rfl, hb⟩
    rw [chkW_one]
    have R : Hid (Cw w1 (w.heap.size + 1) false none 0 0) := ⟨kept_cell hb (by go_simp), kept_cell hb (by go_simp)⟩
    have F : Hid (Fw w1 (w.heap.size + 1)) := ⟨(hb.frozen (by simp)).trans (by go_simp), (hb.frozen (by simp)).trans (by go_simp)⟩
    have Hb := Lib.hid (below_mono (blw3 _ _ _ _) hb)
    clear hb
    obtain ⟨f0, f1⟩ := F.out
    obtain ⟨r0, r1⟩ := R.out
    go_wp2
    exact bodyPost_ret (v := .tuple #[.agg #[.bool false, .slice none 0 0], .int .i64 8]) (by simp [results, Try.results11, go_sem, r0, r1]) rfl (wres_store (r := ((false, []), 8)) (Sl.nil _ none 0) ⟨r0, r1⟩ Hb.out (by omega) _ _)

end Go.Proofs.Ytejapkdhbpngbaa

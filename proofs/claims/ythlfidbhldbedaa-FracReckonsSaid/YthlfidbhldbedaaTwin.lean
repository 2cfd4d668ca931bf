/- Walk: Twin. -/
import Derived.Test.YthlfidbhldbedaaW1
import Derived.Test.YthlfidbhldbedaaMem
namespace Go.Proofs.Ythlfidbhldbedaa
open Go.RowKit
attribute [local go_sem ↓] Go.wp_at_zero Go.wp_at_succ
set_option maxHeartbeats 1000000 in
theorem twin_any (neg : Bool) (A : Option Addr) (l : List Nat) (c : Nat) (w : World) (hs : Sl w A l c) :
    Calls Try.prog 40 #[.agg #[.bool neg, .slice A l.length c]] w (WRes1 (neg, l) w) := by
  obtain ⟨i0, hi, hz0, hz1, hz2⟩ := info_parts info32
  have Hs := Lib.hid (((hs.alloc (.cells #[.bool neg, .slice A l.length c] 24)).alloc (.cells #[.bool false, .slice none 0 0] 24)).alloc (.cells #[] 80))
  have Hs0 := Lib.hid hs
  clear hs
  have hown0 : Ow ((((w.alloc (.cells #[.bool neg, .slice A l.length c] 24)).alloc (.cells #[.bool false, .slice none 0 0] 24)).alloc (.cells #[] 80)).drew) w.heap.size 80 (.slice (some ⟨w.heap.size + 1 + 1, 0, none⟩) 0 0) [] := by
    have := Ow.empty ((w.alloc (.cells #[.bool neg, .slice A l.length c] 24)).alloc (.cells #[.bool false, .slice none 0 0] 24)) w.heap.size 80 (by simp; omega)
    rw [World.size_alloc, World.size_alloc] at this
    exact this
  have Hown0 := Lib.hid hown0
  have Hn : Hid (([] : List Nat).length + l.length ≤ 35184372088832) := by have := Hs0.out.len; simpa [Hid] using this
  clear hown0
  go_enter Try.func40, Try.ntmps40
  go_wp2_with fail
  go_region_held3 (fun w' => w'.cell? ⟨w.heap.size, 0, none⟩ = some (.bool neg) ∧ w'.cell? ⟨w.heap.size, 1, none⟩ = some (.slice A l.length c))
    (first | exact Q2 | exact Cw.setW Q2 (by omega) _ _ | go_keep)
    ((refine step_app (by rfl) _ _ _ (by rfl) w.heap.size 80 i0 Try.underlying22 hi hz0 hz1 hz2 (.slice (some ⟨w.heap.size + 1 + 1, 0, none⟩) 0 0) [] (by rfl) Hown0.out A l.length l c (by rfl) rfl Hs.out.drew.rd Hn.out ?hb ?_; (case hb => simp; omega); intro A' c' w1 hown hgrow hat; have hb2 : Below (w.heap.size + 1 + 1) _ w1 := (Below.refl _ _).grown hgrow (by simp) (fun k e => by cases e; exact Nat.le_refl _); have Q2 : Cw w1 w.heap.size neg A l.length c := ⟨(hb2.cell (by simp; omega)).trans (by go_simp), (hb2.cell (by simp; omega)).trans (by go_simp)⟩; obtain ⟨r0, r1⟩ : Cw w1 (w.heap.size + 1) false none 0 0 := ⟨(hb2.cell (by simp)).trans (by go_simp), (hb2.cell (by simp)).trans (by go_simp)⟩; obtain ⟨f0, f1⟩ : Fw w1 (w.heap.size + 1) := ⟨(hb2.frozen (by simp)).trans (by go_simp), (hb2.frozen (by simp)).trans (by go_simp)⟩))
  go_wp2
  have hs1 : Sl w1 A' l c' := hown.sl Hs0.out.lim Hs0.out.len
  have hb1 : Below w.heap.size w w1 := (below_drew3 w _ _ _).trans (hb2.mono (by omega))
  exact bodyPost_ret (v := .agg #[.bool neg, .slice A' l.length c']) (by simp [results, Try.results40, go_sem, r0, r1]) rfl ⟨A', c', rfl, hs1.setW r0 r1 _ _, below_setW hb1 (by omega) _ _⟩

end Go.Proofs.Ythlfidbhldbedaa

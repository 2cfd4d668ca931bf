/- Walks: ones of planispherelaw01: a number of so many limbs whose bits are all set. -/
import Derived.Test.YthlfidbhldbedaaDoorW1
import Derived.Deep.LoopGhost
namespace Go.Proofs.YthlfidbhldbedaaDoor
open Go.RowKit
attribute [local go_sem ↓] Go.wp_at_zero Go.wp_at_succ
def onesL (n : Nat) : List Nat := List.replicate n 4294967295

theorem onesL_len (n : Nat) : (onesL n).length = n := by simp [onesL]

theorem onesL_succ (n : Nat) : onesL (n + 1) = onesL n ++ [4294967295] := by unfold onesL; rw [List.replicate_succ']

theorem lim_ones (n : Nat) : Lim (onesL n) := by
  intro x hx
  have := List.eq_of_mem_replicate hx
  omega

theorem val_ones (n : Nat) : val (onesL n) + 1 = 4294967296 ^ n := by
  induction n with
  | zero => rfl
  | succ n ih =>
    rw [onesL_succ, val_snoc, onesL_len, Nat.pow_succ]
    omega

theorem cw_field {w : World} {g : Nat} {n : Bool} {A A' : Option Addr} {m m' c c' : Nat} (h : Cw w g n A m c) : Cw (w.setCell ⟨g, 1, none⟩ (.slice A' m' c')) g n A' m' c' :=
  ⟨by rw [World.cell?_setCell_other _ _ _ _ (by simp)]; exact h.1, World.cell?_setCell_same _ _ _ h.2⟩

theorem cw_field_other {w : World} {g g' : Nat} {n : Bool} {A : Option Addr} {m c : Nat} (h : Cw w g n A m c) (hne : g' ≠ g) (v : Value) : Cw (w.setCell ⟨g', 1, none⟩ v) g n A m c :=
  ⟨by rw [World.cell?_setCell_other _ _ _ _ (by simp <;> omega)]; exact h.1, by rw [World.cell?_setCell_other _ _ _ _ (by simp <;> omega)]; exact h.2⟩

theorem fw_field {w : World} {g : Nat} (f : Fw w g) (p : Addr) (v : Value) : Fw (w.setCell p v) g := ⟨by rw [World.frozen?_setCell]; exact f.1, by rw [World.frozen?_setCell]; exact f.2⟩

set_option maxRecDepth 100000 in
set_option maxHeartbeats 2000000 in
theorem ones_any (n : Nat) (hn : n ≤ 5000) (w : World) : Calls Tryd.prog 6 #[.int .i64 n] w (WRes1 (false, onesL n) w) := by
  obtain ⟨i0, hi, hz0, hz1, hz2⟩ := info_parts info32
  go_enter Tryd.func6, Tryd.ntmps6
  go_wp2
  go_loopw [4] (fun s4 wr => ∃ (k : Nat) (A : Option Addr) (c : Nat), s4 = .int .i64 k ∧ k ≤ n ∧ Cw wr (w.heap.size + 1) false A k c ∧ Fw wr (w.heap.size + 1) ∧ Cw wr w.heap.size false none 0 0 ∧ Fw wr w.heap.size ∧ Ow wr (w.heap.size + 2) 28 (.slice A k c) (onesL k) ∧ Below w.heap.size w wr) (fun s4 _ => n - (intOf s4).toNat)
  case atStart => exact ⟨0, none, 0, rfl, by omega, ⟨by go_simp, by go_simp⟩, ⟨by go_simp, by go_simp⟩, ⟨by go_simp, by go_simp⟩, ⟨by go_simp, by go_simp⟩, Ow.nil0 _ _ _, blw2 _ _ _⟩
  case round =>
    obtain ⟨k, A, c, rfl, hk, kk, kf, rk, rf, ow, hb⟩ := hrel
    have K := Lib.hid kk
    have KF := Lib.hid kf
    have R := Lib.hid rk
    have RF := Lib.hid rf
    have O := Lib.hid ow
    have B := Lib.hid hb
    have hlt : w.heap.size + 1 < wr.heap.size := lt_of_cell (a := ⟨w.heap.size + 1, 0, none⟩) kk.1
    obtain ⟨q0, q1⟩ := kk
    obtain ⟨f0, f1⟩ := kf
    clear rk rf ow hb
    by_cases hlt2 : k < n
    · have Hl : Hid ((onesL k).length + [4294967295].length ≤ 35184372088832) := by unfold Hid; rw [onesL_len]; simp; omega
      go_wp2_with (at_builtin; refine wpList_app rfl _ _ 22 rfl (w.heap.size + 2) 28 i0 Tryd.underlying22 hi hz0 hz1 hz2 (.slice A k c) (onesL k) rfl (O.out.alloc _) (some ⟨wr.heap.size, 0, none⟩) 1 [4294967295] 1 rfl rfl (Rd.one _ _ _) Hl.out (by simp; omega) ?_; intro A' c' w1 hown hgrow _; rw [← onesL_succ] at hown ⊢; rw [onesL_len] at hown ⊢; have O1 := Lib.hid hown; have B1 : Hid (Below (w.heap.size + 2) wr w1) := Lib.hid (((Below.refl _ wr).alloc (by omega) _).grown hgrow (by simp; omega) O.out.own); clear hown hgrow; have K1 : Hid (Cw w1 (w.heap.size + 1) false A k c) := ⟨(B1.out.cell (by simp)).trans K.out.1, (B1.out.cell (by simp)).trans K.out.2⟩; have KF1 : Hid (Fw w1 (w.heap.size + 1)) := ⟨(B1.out.frozen (by simp)).trans KF.out.1, (B1.out.frozen (by simp)).trans KF.out.2⟩; clear q0 q1 f0 f1; obtain ⟨q0, q1⟩ := K1.out; obtain ⟨f0, f1⟩ := KF1.out)
      go_roundw
      case rel =>
        have R1 : Cw w1 w.heap.size false none 0 0 := ⟨(B1.out.cell (by simp)).trans R.out.1, (B1.out.cell (by simp)).trans R.out.2⟩
        have RF1 : Fw w1 w.heap.size := ⟨(B1.out.frozen (by simp)).trans RF.out.1, (B1.out.frozen (by simp)).trans RF.out.2⟩
        refine ⟨k + 1, A', c', by go_num, hlt2, cw_field K1.out, fw_field KF1.out _ _, cw_field_other R1 (by omega) _, fw_field RF1 _ _, ?_, (B.out.trans (B1.out.mono (by omega))).setCell (by simp) _⟩
        refine ⟨O1.out.1, ?_⟩
        rcases O1.out.2 with h2 | ⟨g, cap, cur, hv, hg, hh, r⟩
        · exact .inl h2
        · exact .inr ⟨g, cap, cur, hv, hg, (Below.heap_setCell w1 ⟨w.heap.size + 1, 1, none⟩ _ g (by simp; omega)).trans hh, r⟩
      case measure => simp [intOf]; omega
    · obtain rfl : k = n := by omega
      obtain ⟨r0, r1⟩ := R.out
      obtain ⟨g0, g1⟩ := RF.out
      have Hsl : Hid (Sl wr A (onesL k) c) := Ow.sl (by rw [onesL_len]; exact O.out) (lim_ones k) (by rw [onesL_len]; omega)
      have Hlen := Lib.hid (onesL_len k)
      go_wp2
      exact bodyPost_ret (v := .agg #[.bool false, .slice A k c]) (by simp [results, Tryd.results6, go_sem, r0, r1]) rfl ⟨A, c, by rw [Hlen.out], Hsl.out.setW R.out.1 R.out.2 _ _, below_setW B.out (Nat.le_refl _) _ _⟩

/-- The box of zero, kept where only blocks from X on are made or written. -/
structure ZP (X : World) (g : Nat) (W : World) : Prop where
  z : Cw W g false none 0 0
  b : Below X.heap.size X W
  lt : g < X.heap.size

section
variable {X W v : World} {g : Nat}
theorem ZP.keep (h : ZP X g W) (hb : Below W.heap.size W v) : ZP X g v := ⟨h.z.keep hb, below_mono h.b hb, h.lt⟩

theorem ZP.drew (h : ZP X g W) : ZP X g W.drew := ⟨h.z, h.b.drew, h.lt⟩

theorem ZP.alloc (h : ZP X g W) (o : Obj) : ZP X g (W.alloc o) := h.keep (blw1 _ _)

theorem ZP.setW (h : ZP X g W) {k : Nat} (hk : X.heap.size ≤ k) (x y : Value) : ZP X g ((W.setCell ⟨k, 0, none⟩ x).setCell ⟨k, 1, none⟩ y) :=
  ⟨h.z.setW (by have := h.lt; omega) x y, below_setW h.b hk x y, h.lt⟩

theorem ZP.start (h : Cw X g false none 0 0) : ZP X g X := ⟨h, Below.refl _ _, lt_of_cell h.1⟩

end
end Go.Proofs.YthlfidbhldbedaaDoor

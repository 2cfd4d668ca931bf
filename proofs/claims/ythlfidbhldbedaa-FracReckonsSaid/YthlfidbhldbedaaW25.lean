/- Walks: the reference's short. -/
import Derived.Test.YthlfidbhldbedaaW1
import Derived.Test.YthlfidbhldbedaaMem
import Derived.Test.YthlfidbhldbedaaMath
namespace Go.Proofs.Ythlfidbhldbedaa
open Go.RowKit
theorem mod32_of {z : Int} {q : Nat} (h : z = q) (hq : q < 4294967296) : z % 4294967296 = q := by omega

set_option maxRecDepth 100000 in
set_option maxHeartbeats 2000000 in
theorem rshort_any (A1 : Option Addr) (l : List Nat) (c1 d : Nat) (w : World) (hs1 : Sl w A1 l c1) (hlen1 : l.length ≤ 1000000) (hd : 0 < d) (hd2 : d < 4294967296) :
    Calls Try.prog 88 #[.slice A1 l.length c1, .int .u32 d] w (LRes2 (limbs (val l / d)) (limbs (val l % d)) w) := by
  obtain ⟨i0, hi, hz0, hz1, hz2⟩ := info_parts info32
  have hmk := fun W => run_make32 (P := Try.prog) 22 80 i0 Try.underlying22 hi hz0 hz1 hz2 (l.length : Int) (l.length : Int) l.length l.length rfl rfl (Nat.le_refl _) (by omega) W
  have Hs1 := Lib.hid hs1
  have hd0 : ((d : Int) != 0) = true := by rw [bne_iff_ne]; omega
  have hd00 : ((d : Int) == 0) = false := by rw [beq_eq_false_iff_ne]; omega
  clear hs1 hi hz0 hz1 hz2
  go_enter Try.func88, Try.ntmps88
  go_wp2
  go_loopw [7, 8] (fun rv i wr => ∃ (m r : Nat) (o : List Nat), m ≤ l.length ∧ i = .int .i64 ((m : Int) - 1) ∧ rv = .int .u64 r ∧ r < d ∧ o.length = l.length ∧ Lim o ∧ Blk wr w.heap.size 80 o ∧ val (o.drop m) = val (l.drop m) / d ∧ r = val (l.drop m) % d ∧ Below w.heap.size w wr) (fun _ i _ => (intOf i + 1).toNat)
  case atStart => exact ⟨l.length, 0, List.replicate l.length 0, Nat.le_refl _, rfl, rfl, hd, by simp, lim_replicate _, Blk.zrow _ _ _, by rw [val_drop_end, Nat.zero_div, List.drop_of_length_le (by simp)]; rfl, by rw [val_drop_end, Nat.zero_mod], blw1 _ _⟩
  case round =>
    obtain ⟨m, r, o, hm, rfl, rfl, hr, hol, holim, hblk, hq, hrr, hb⟩ := hrel
    have Hol := Lib.hid hol
    have Hlim := Lib.hid holim
    have Hblk := Lib.hid hblk
    have Hq := Lib.hid hq
    have Hrr := Lib.hid hrr
    have Hb := Lib.hid hb
    clear hol holim hblk hq hrr hb
    cases m with
    | zero =>
      have Hso : Hid (Sl wr (some ⟨w.heap.size, 0, none⟩) o l.length) := ⟨Hblk.out.rd, Hlim.out, by rw [Hol.out]; exact Nat.le_refl _, by rw [Hol.out]; omega⟩
      have Hvo : Hid (val o = val l / d) := Hq.out
      have Hr : Hid (val [r] = val l % d) := by have h := Hrr.out; rw [List.drop_zero] at h; unfold Hid; rw [← h]; simp [val]
      have htr := rtrim_any (some ⟨w.heap.size, 0, none⟩) o l.length wr Hso.out
      rw [Hol.out, Hvo.out] at htr
      have Hrd : Hid (r < 4294967296) := by unfold Hid; omega
      go_wp2_with fail
      refine htr.mono ?_
      rintro e w1 ⟨A2, c2, rfl, hs2, hb2⟩
      have Hs2 := Lib.hid hs2
      have Hb2 := Lib.hid (below_mono Hb.out hb2)
      clear hs2 hb2 htr
      have hr2 := Hrd.out
      go_wp2_with fail
      refine (rtrim_any (some ⟨w1.heap.size, 0, none⟩) [r] 1 _ ⟨Rd.onev w1 (by simp <;> omega) _, lim_one Hrd.out, Nat.le_refl _, by simp⟩).mono ?_
      rw [Hr.out]
      rintro e w2 ⟨A3, c3, rfl, hs3, hb3⟩
      have Hs3 := Lib.hid hs3
      have hz : w1.heap.size ≤ w2.heap.size := by have := hb3.size; simp at this; omega
      have Hb3 := Lib.hid (below_mono Hb2.out (below_mono (blw1 _ _) hb3))
      have Hs2' := Lib.hid ((Hs2.out.alloc (.cells #[.int .u32 (r : Nat)] 80)).below hb3)
      clear hs3 hb3
      go_wp2
      go_ret2
      exact ⟨A2, c2, A3, c3, rfl, Hs2'.out, Hs3.out, Hb3.out⟩
    | succ m =>
      obtain ⟨b1, o1, rfl, hx1⟩ := (Hs1.out.below Hb.out).rd.at_ (k := m) (by omega)
      have hx2 := getD_lim Hs1.out.lim m
      have hcell : wr.cell? ⟨w.heap.size, m, none⟩ = some (.int .u32 (o[m]?.getD 0 : Nat)) := Hblk.out.cell (by rw [Hol.out]; omega)
      have hfr : wr.frozen? ⟨w.heap.size, m, none⟩ = false := Hblk.out.frozen m
      have Hst := Lib.hid (ldiv_step (o := o) (D := d) (r := r) hd (show m < l.length by omega) Hol.out Hq.out Hrr.out)
      have Hlt := Lib.hid (ldiv_lt hr hx2)
      have Hrm : Hid ((r * 4294967296 + l[m]?.getD 0) % d < d) := Nat.mod_lt _ hd
      generalize l[m]?.getD 0 = x at *
      go_wp2
      have Hv : Hid (((r : Int) * 4294967296 + (x : Int)) / (d : Int) % 4294967296 = (((r * 4294967296 + x) / d : Nat) : Int)) := by
        exact mod32_of (by simp) Hlt.out
      go_roundw
      case rel => exact ⟨m, (r * 4294967296 + x) % d, o.set m ((r * 4294967296 + x) / d), by omega, rfl, int_eq (by simp), Hrm.out, by rw [List.length_set]; exact Hol.out, lim_set Hlim.out Hlt.out, Hblk.out.setv Hv.out _, Hst.out.1, Hst.out.2, Hb.out.setCell (p := ⟨w.heap.size, m, none⟩) (Nat.le_refl _) _⟩
      case measure => simp [intOf]

end Go.Proofs.Ythlfidbhldbedaa

/- Walks: wide.subtract. -/
import Derived.Test.YtejapkdhbpngbaaDoorW10
import Derived.Test.YtejapkdhbpngbaaDoorMem
import Derived.Test.YtejapkdhbpngbaaDoorMath
import Derived.Test.YtejapkdhbpngbaaDoorW13
namespace Go.Proofs.YtejapkdhbpngbaaDoor
open Go.RowKit
/-- What subtract leaves: true where the multiple is no greater. -/
def SubRes (u v : List Nat) (q g : Nat) (w : World) : Ending → World → Prop := fun e w' =>
  ∃ o, e = .returned (.bool (decide (q * val v ≤ val u))) ∧ Bx w' g o ∧ o.length = u.length ∧ Lim o ∧ (q * val v ≤ val u → val o = val u - q * val v) ∧ But g w w'

set_option maxRecDepth 100000 in
set_option maxHeartbeats 2000000 in
theorem subtract_any (g cu : Nat) (u v : List Nat) (A : Option Addr) (c q : Nat) (w : World) (hu : Bx w g u) (hul : Lim u) (hs : Sl w A v c) (hf : ∀ ad, A = some ad → ad.block ≠ g) (hlu : u.length = v.length + 1) (hlen : v.length ≤ 1000000) (hq : q < 4294967296) :
    Calls Tryd.prog 92 #[.slice (some ⟨g, 0, none⟩) u.length cu, .slice A v.length c, .int .u32 q] w (SubRes u v q g w) := by
  have Hu := Lib.hid hu
  have Hul := Lib.hid hul
  have Hs := Lib.hid hs
  have Hf := Lib.hid hf
  clear hu hul hs hf
  rw [hlu]
  go_enter Tryd.func92, Tryd.ntmps92
  go_wp2
  go_loopw [7, 8, 9, 10, 14, 26] (fun cy bw _ _ i _ wr => ∃ (k cr b : Nat) (o : List Nat), k ≤ v.length ∧ i = .int .i64 k ∧ cy = .int .u64 cr ∧ cr < 4294967296 ∧ bw = .int .u32 b ∧ b ≤ 1 ∧ o.length = v.length + 1 ∧ Lim o ∧ Bx wr g o ∧ pv o k + q * pv v k = pv u k + (b + cr) * 4294967296 ^ k ∧ (∀ j, k ≤ j → o[j]?.getD 0 = u[j]?.getD 0) ∧ But g w wr) (fun _ _ _ _ i _ _ => v.length - (intOf i).toNat)
  case atStart => exact ⟨0, 0, 0, u, Nat.zero_le _, rfl, rfl, by omega, rfl, by omega, hlu, Hul.out, Hu.out, by simp [pv_zero], fun _ _ => rfl, But.refl _ _⟩
  case round =>
    obtain ⟨k, cr, b, o, hk, rfl, rfl, hcr, rfl, hb1, hol, holim, hblk, hsum, hsame, hb⟩ := hrel
    have Hol := Lib.hid hol
    have Hlim := Lib.hid holim
    have Hblk := Lib.hid hblk
    have Hsum := Lib.hid hsum
    have Hsame := Lib.hid hsame
    have Hb := Lib.hid hb
    clear hol holim hblk hsum hsame hb
    by_cases hlt : k < v.length
    · obtain ⟨b1, o1, rfl, hy1⟩ := (Hs.out.but Hf.out Hb.out).rd.at_ (k := k) hlt
      have hy2 := getD_lim Hs.out.lim k
      have hx2 := getD_lim Hlim.out k
      have hcell : wr.cell? ⟨g, k, none⟩ = some (.int .u32 (o[k]?.getD 0 : Nat)) := Hblk.out.cell (by rw [Hol.out]; omega)
      have hfr : wr.frozen? ⟨g, k, none⟩ = false := Hblk.out.frozen k
      have Hst := Lib.hid (msub_step (o := o) (u := u) (v := v) (q := q) (d := (o[k]?.getD 0 + 8589934592 - (cr + q * v[k]?.getD 0) % 4294967296 - b) % 4294967296) (by rw [Hol.out]; omega) (sub_eq hx2 (Nat.mod_lt _ (by omega)) hb1) (Hsame.out k (Nat.le_refl _)) Hsum.out)
      have hmul := mul_u64 hq hy2
      have hmle := mul_le hq hy2
      generalize v[k]?.getD 0 = y at *
      generalize hx : o[k]?.getD 0 = x at *
      generalize q * y = p at *
      have hcp : Hid ((cr + p) / 4294967296 < 4294967296) := by unfold Hid; omega
      have hm32 : (cr + p) % 4294967296 < 4294967296 := Nat.mod_lt _ (by omega)
      have Hq : Hid (subB x ((cr + p) % 4294967296) b ≤ 1) := by unfold Hid subB; split <;> omega
      go_wp2_with fail
      refine (sub32_any x ((cr + p) % 4294967296) b hx2 hm32 hb1 _).mono ?_
      rintro e w1 ⟨rfl, rfl⟩
      go_wp2
      go_roundw
      case rel => exact ⟨k + 1, (cr + p) / 4294967296, _, o.set k ((x + 8589934592 - (cr + p) % 4294967296 - b) % 4294967296), by omega, by go_num, int_eq (by omega), hcp.out, rfl, Hq.out, by rw [List.length_set]; exact Hol.out, lim_set Hlim.out (Nat.mod_lt _ (by omega)), Hblk.out.set rfl (by rw [Hol.out]; omega), Hst.out, fun j hj => by rw [getD_set_ne (by omega)]; exact Hsame.out j (by omega), Hb.out.set _ rfl _⟩
      case measure => simp [intOf]; omega
    · obtain rfl : k = v.length := by omega
      have hx2 := getD_lim Hlim.out v.length
      have hcell : wr.cell? ⟨g, v.length, none⟩ = some (.int .u32 (o[v.length]?.getD 0 : Nat)) := Hblk.out.cell (by rw [Hol.out]; omega)
      have hfr : wr.frozen? ⟨g, v.length, none⟩ = false := Hblk.out.frozen _
      have Hst := Lib.hid (msub_last (o := o) (u := u) (v := v) (q := q) (d := (o[v.length]?.getD 0 + 8589934592 - cr - b) % 4294967296) (by rw [Hol.out]; omega) Hol.out hlu (Nat.le_refl _) (sub_eq hx2 hcr hb1) (Hsame.out _ (Nat.le_refl _)) Hsum.out)
      generalize hx : o[v.length]?.getD 0 = x at *
      have Hq : Hid (subB x cr b ≤ 1) := by unfold Hid subB; split <;> omega
      have Hend := Lib.hid (msub_end (lim_set Hlim.out (Nat.mod_lt (x + 8589934592 - cr - b) (by omega))) (by rw [List.length_set]; exact Hol.out) Hq.out Hst.out)
      have Hres : Hid ((((subB x cr b : Nat) : Int) == 0) = decide (q * val v ≤ val u)) := by
        unfold Hid
        rw [decide_eq_decide.2 Hend.out.1]
        by_cases h0 : subB x cr b = 0
        · rw [decide_eq_true h0, beq_iff_eq, h0]; rfl
        · rw [decide_eq_false h0, beq_eq_false_iff_ne]; omega
      go_wp2_with fail
      refine (sub32_any x cr b hx2 hcr hb1 _).mono ?_
      rintro e w1 ⟨rfl, rfl⟩
      go_wp2
      go_ret
      exact ⟨o.set v.length ((x + 8589934592 - cr - b) % 4294967296), by rw [Hres.out]; rfl, Hblk.out.set rfl (by rw [Hol.out]; omega), by rw [List.length_set, hlu]; exact Hol.out, lim_set Hlim.out (Nat.mod_lt _ (by omega)), fun hle => Hend.out.2 (Hend.out.1.1 hle), Hb.out.set _ rfl _⟩

end Go.Proofs.YtejapkdhbpngbaaDoor

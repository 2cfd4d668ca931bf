import Derived.Test.YtgkamalgokebgaaDoorFr2
import Derived.Laws.IdiomStrings
namespace Go.Proofs.YtgkamalgokebgaaDoor
open Go.RowKit Go.Lib Go.Shelf
attribute [local go_sem ↓] Go.wp_at_zero Go.wp_at_succ
/-- What stands in frame's variable. -/
def BarE (W : World) : Prop := W.cell? ⟨0, 0, none⟩ = some (.int .i64 58) ∧ W.cell? ⟨0, 1, none⟩ = some (.int .i64 64) ∧ W.cell? ⟨0, 2, none⟩ = some (.int .i64 91) ∧ W.cell? ⟨0, 3, none⟩ = some (.int .i64 96)

theorem BarE.keep {w w' : World} (h : BarE w) (hb : Below w.heap.size w w') : BarE w' := ⟨kept_cell hb h.1, kept_cell hb h.2.1, kept_cell hb h.2.2.1, kept_cell hb h.2.2.2⟩

set_option maxRecDepth 100000 in
set_option maxHeartbeats 4000000 in
theorem isBarred_any (c : Nat) (hc : c ≤ 1000) (w : World) (hE : BarE w) :
    Calls Tryd.prog 9 #[.int .i64 (c : Int)] w fun e w' => e = .returned (.bool (barB c)) ∧ Below w.heap.size w w' := by
  obtain ⟨g0, g1, g2, g3⟩ := hE
  have x0 : Hid (∀ W, (Instr.index 54 (.agg #[Value.int .i64 58, .int .i64 64, .int .i64 91, .int .i64 96]) (.int .i64 0)).run Tryd.prog W = .ok (.agg #[.int .i64 58, .int .i64 64]) W) := fun W => by kernel_rfl
  have x1 : Hid (∀ W, (Instr.index 54 (.agg #[Value.int .i64 58, .int .i64 64, .int .i64 91, .int .i64 96]) (.int .i64 1)).run Tryd.prog W = .ok (.agg #[.int .i64 91, .int .i64 96]) W) := fun W => by kernel_rfl
  go_enter Tryd.func9, Tryd.ntmps9
  go_wp2
  clear g0 g1 g2 g3
  go_loopw [6] (fun s6 wr => ((s6 = .int .i64 0) ∨ (s6 = .int .i64 1 ∧ (decide (58 ≤ c) && decide (c ≤ 64)) = false) ∨ (s6 = .int .i64 2 ∧ (decide (58 ≤ c) && decide (c ≤ 64)) = false ∧ (decide (91 ≤ c) && decide (c ≤ 96)) = false)) ∧ Below w.heap.size w wr) (fun v _ => 2 - (RowKit.intOf v).toNat)
  case atStart => exact ⟨Or.inl rfl, Below.refl _ _⟩
  case round =>
    obtain ⟨hc3, hbw⟩ := hrel
    have HB := Lib.hid hbw
    clear hbw
    obtain rfl | ⟨rfl, e1⟩ | ⟨rfl, e1, e2⟩ := hc3
    · skip
      have KR : Hid (BlkV (wr.alloc (.cells #[.int .i64 58, .int .i64 64] 53)) wr.heap.size 53 #[.int .i64 58, .int .i64 64]) := BlkV.fresh rfl _ _
      have B1 : Hid (Below w.heap.size w (wr.alloc (.cells #[.int .i64 58, .int .i64 64] 53))) := below_mono HB.out (blw1 _ _)
      have r0 : (wr.alloc (.cells #[.int .i64 58, .int .i64 64] 53)).cell? ⟨wr.heap.size, 0, none⟩ = some (.int .i64 58) := KR.out.at_ 0 rfl
      have r1 : (wr.alloc (.cells #[.int .i64 58, .int .i64 64] 53)).cell? ⟨wr.heap.size, 1, none⟩ = some (.int .i64 64) := KR.out.at_ 1 rfl
      by_cases hlo : 58 ≤ c
      · have d1 : decide ((58 : Int) ≤ (c : Int)) = true := decide_eq_true (by omega)
        by_cases hhi : c ≤ 64
        · have d2 : decide ((c : Int) ≤ 64) = true := decide_eq_true (by omega)
          go_wp2
          rw [x0.out]
          go_wp2
          go_ret
          refine ⟨by rw [show barB c = true from by unfold barB; simp; omega]; rfl, B1.out⟩
        · have d2 : decide ((c : Int) ≤ 64) = false := decide_eq_false (by omega)
          go_wp2
          rw [x0.out]
          go_wp2
          go_roundw
          case rel => exact ⟨Or.inr (Or.inl ⟨by go_num, by simp; omega⟩), B1.out⟩
          case measure => simp [RowKit.intOf]
      · have d1 : decide ((58 : Int) ≤ (c : Int)) = false := decide_eq_false (by omega)
        go_wp2
        rw [x0.out]
        go_wp2
        go_roundw
        case rel => exact ⟨Or.inr (Or.inl ⟨by go_num, by simp; omega⟩), B1.out⟩
        case measure => simp [RowKit.intOf]
    · skip
      have KR : Hid (BlkV (wr.alloc (.cells #[.int .i64 91, .int .i64 96] 53)) wr.heap.size 53 #[.int .i64 91, .int .i64 96]) := BlkV.fresh rfl _ _
      have B1 : Hid (Below w.heap.size w (wr.alloc (.cells #[.int .i64 91, .int .i64 96] 53))) := below_mono HB.out (blw1 _ _)
      have r0 : (wr.alloc (.cells #[.int .i64 91, .int .i64 96] 53)).cell? ⟨wr.heap.size, 0, none⟩ = some (.int .i64 91) := KR.out.at_ 0 rfl
      have r1 : (wr.alloc (.cells #[.int .i64 91, .int .i64 96] 53)).cell? ⟨wr.heap.size, 1, none⟩ = some (.int .i64 96) := KR.out.at_ 1 rfl
      by_cases hlo : 91 ≤ c
      · have d1 : decide ((91 : Int) ≤ (c : Int)) = true := decide_eq_true (by omega)
        by_cases hhi : c ≤ 96
        · have d2 : decide ((c : Int) ≤ 96) = true := decide_eq_true (by omega)
          go_wp2
          rw [x1.out]
          go_wp2
          go_ret
          refine ⟨by rw [show barB c = true from by unfold barB; simp; omega]; rfl, B1.out⟩
        · have d2 : decide ((c : Int) ≤ 96) = false := decide_eq_false (by omega)
          go_wp2
          rw [x1.out]
          go_wp2
          go_roundw
          case rel => exact ⟨Or.inr (Or.inr ⟨by go_num, e1, by simp; omega⟩), B1.out⟩
          case measure => simp [RowKit.intOf]
      · have d1 : decide ((91 : Int) ≤ (c : Int)) = false := decide_eq_false (by omega)
        go_wp2
        rw [x1.out]
        go_wp2
        go_roundw
        case rel => exact ⟨Or.inr (Or.inr ⟨by go_num, e1, by simp; omega⟩), B1.out⟩
        case measure => simp [RowKit.intOf]
    · skip
      have EB : Hid (barB c = false) := by unfold Hid barB; rw [e1, e2]; rfl
      go_wp2
      go_ret
      exact ⟨by rw [EB.out]; rfl, HB.out⟩

def doneJ (i k j : Nat) : Bool := decide (j % 4 < i) || (decide (j % 4 = i) && decide (j / 8 < k))

/-- The row of a code's characters, where the bytes below i are done, and the pairs below k of byte i. -/
def cellsC (v i k : Nat) : Array Value := ((List.range 16).map fun p => Value.int .u8 (if doneJ i k ((p + 15) % 16) then ((cch v ((p + 15) % 16) : Nat) : Int) else 0)).toArray

theorem cellsC_next (v i : Nat) (_hi : i < 4) : cellsC v i 2 = cellsC v (i + 1) 0 := by
  unfold cellsC
  congr 1
  apply List.map_congr_left
  intro p hp
  have hp := List.mem_range.1 hp
  have e : doneJ i 2 ((p + 15) % 16) = doneJ (i + 1) 0 ((p + 15) % 16) := by
    unfold doneJ
    rw [Bool.eq_iff_iff]
    simp
    omega
  rw [e]

theorem cellsC_step (v i k : Nat) (hi : i < 4) (hk : k < 2) : ((cellsC v i k).setIfInBounds ((8 * k + i + 1) % 16) (.int .u8 ((cx (byt v i) k : Nat) : Int))).setIfInBounds ((8 * k + 4 + i + 1) % 16) (.int .u8 ((cy (byt v i) k : Nat) : Int)) = cellsC v i (k + 1) := by
  obtain rfl | rfl | rfl | rfl : i = 0 ∨ i = 1 ∨ i = 2 ∨ i = 3 := by omega
  all_goals (obtain rfl | rfl : k = 0 ∨ k = 1 := by omega)
  all_goals rfl

theorem cellsC_zero (v : Nat) : cellsC v 0 0 = #[Value.int .u8 0, Value.int .u8 0, Value.int .u8 0, Value.int .u8 0, Value.int .u8 0, Value.int .u8 0, Value.int .u8 0, Value.int .u8 0, Value.int .u8 0, Value.int .u8 0, Value.int .u8 0, Value.int .u8 0, Value.int .u8 0, Value.int .u8 0, Value.int .u8 0, Value.int .u8 0] := rfl

theorem bar_at {b k n : Nat} (hb : b < 256) (hk : k < 2) (hn : n < nst b k) : bar2 (qx b k + n) (b / 4 + 48 - n) = true := by
  have h := code_ok hb hk
  unfold codeOk at h
  simp only [Bool.and_eq_true] at h
  exact List.all_eq_true.1 h.1.1.1.2 n (List.mem_range.2 hn)

theorem bar_end {b k : Nat} (hb : b < 256) (hk : k < 2) : nst b k ≤ 10 ∧ bar2 (cx b k) (cy b k) = false ∧ goodC (cx b k) = true ∧ goodC (cy b k) = true ∧ cx b k + cy b k = 2 * (b / 4 + 48) + (if k = 0 then b % 4 else 0) := by
  have h := code_ok hb hk
  unfold codeOk at h
  simp only [Bool.and_eq_true, decide_eq_true_eq, Bool.not_eq_true', beq_iff_eq] at h
  exact ⟨h.1.1.1.1.1, h.1.1.1.1.2, h.1.1.2, h.1.2, h.2⟩

theorem qx_le {b k : Nat} (hb : b < 256) : qx b k ≤ 114 := by unfold qx; split <;> omega

theorem stp_le : ∀ f x y, stp f x y ≤ f
  | 0, _, _ => Nat.le_refl _
  | f + 1, x, y => by
    have := stp_le f (x + 1) (y - 1)
    unfold stp
    split <;> omega

theorem goodC_le {c : Nat} (h : goodC c = true) : 48 ≤ c ∧ c ≤ 122 := by
  unfold goodC at h
  simp only [Bool.or_eq_true, Bool.and_eq_true, decide_eq_true_eq] at h
  omega

theorem code_both {b : Nat} (hb : b < 256) (k : Nat) : cx b k < 256 ∧ cy b k < 256 := by
  by_cases h : k < 2
  · have h2 := bar_end hb h
    have h3 := goodC_le h2.2.2.1
    have h4 := goodC_le h2.2.2.2.1
    omega
  · have hq := qx_le (k := k) hb
    have hn := stp_le 20 (qx b k) (b / 4 + 48)
    unfold cx cy nst
    omega

theorem cellsC_at (v i k p : Nat) (hp : p < 16) : ∃ x, (cellsC v i k)[p]? = some x := by
  have : p < (cellsC v i k).size := by unfold cellsC; simp; exact hp
  exact ⟨_, Array.getElem?_eq_getElem this⟩

theorem byt_lt (v i : Nat) : byt v i < 256 := Nat.mod_lt _ (by omega)

theorem byt_and (v : Nat) (hv : v < 4294967296) (d : Nat) : bits .and .u32 ((v / d : Nat) : Int) 255 = ((v / d % 256 : Nat) : Int) := by
  have h1 : v / d ≤ v := Nat.div_le_self _ _
  have e := u32_and_nat (v / d) 255 (by omega) (by omega)
  rw [show (255 : Nat) = 2 ^ 8 - 1 from rfl, Nat.and_two_pow_sub_one_eq_mod] at e
  exact e

theorem byt_val (v i : Nat) (hv : v < 4294967296) (x : Int) (hx : x = ((v / 2 ^ (24 - 8 * i) : Nat) : Int)) : wrap64 (bits .and .u32 x 255) = (byt v i : Int) := by
  subst hx
  rw [byt_and v hv]
  unfold byt wrap64
  omega

theorem cx_lt (v j : Nat) : cch v j < 256 := by
  unfold cch
  split
  · have := (code_both (byt_lt v (j % 4)) (j / 8)).1; omega
  · have := (code_both (byt_lt v (j % 4)) (j / 8)).2; omega

theorem codeS_len (v : Nat) : (codeS v).length = 16 := by unfold codeS; simp

theorem codeS_at (v j : Nat) (hj : j < (codeS v).length) : (cellsC v 4 0)[j]? = some (.int .u8 (((codeS v)[j]'hj).toNat : Int)) := by
  have h16 : j < 16 := by rw [codeS_len] at hj; exact hj
  have hd : doneJ 4 0 ((j + 15) % 16) = true := by unfold doneJ; simp; omega
  have hv := cx_lt v ((j + 15) % 16)
  have e : (codeS v)[j]'hj = UInt8.ofNat (cch v ((j + 15) % 16)) := by simp [codeS]
  rw [e, UInt8.toNat_ofNat_of_lt' hv]
  unfold cellsC
  rw [List.getElem?_toArray, List.getElem?_map, List.getElem?_range h16, Option.map_some, hd, if_pos rfl]

theorem code_conv (v : Nat) (W : World) (g : Nat) (h : BlkV W g 39 (cellsC v 4 0)) : (convert 41 9 (.slice (some ⟨g, 0, none⟩) 16 16)).run Tryd.prog W = .ok (.string ⟨(codeS v).toArray⟩) W := by
  have hr := run_convert_bytes_back (P := Tryd.prog) W 41 9 5 ⟨g, 0, none⟩ 16 (codeS v) (by kernel_rfl) (by kernel_rfl) (by kernel_rfl) (fun j hj => by
    rw [Addr.add_lit, Nat.zero_add]
    exact h.at_ j (codeS_at v j hj))
  rw [codeS_len] at hr
  exact hr

set_option maxRecDepth 100000 in
set_option maxHeartbeats 4000000 in
theorem code_any (v : Nat) (hv : v < 4294967296) (w : World) (hE : BarE w) :
    Calls Tryd.prog 6 #[.int .u32 (v : Int)] w fun e w' => e = .returned (.string ⟨(codeS v).toArray⟩) ∧ Below w.heap.size w w' := by
  have EN := Lib.hid hE
  have BA := Lib.hid (fun (d : Nat) => byt_and v hv d)
  have C0 := Lib.hid (cellsC_zero v)
  have K0 : Hid (BlkV (w.alloc (.cells (cellsC v 0 0) 39)) w.heap.size 39 (cellsC v 0 0)) := BlkV.fresh rfl _ _
  have B0 : Hid (Below w.heap.size w (w.alloc (.cells (cellsC v 0 0) 39))) := blw1 _ _
  clear hE
  go_enter Tryd.func6, Tryd.ntmps6
  go_wp2
  rw [← C0.out]
  generalize w.alloc (.cells (cellsC v 0 0) 39) = w0 at *
  clear C0
  go_loopw [9] (fun s9 wr => ((s9 = .int .i64 0 ∧ BlkV wr w.heap.size 39 (cellsC v 0 0)) ∨ (s9 = .int .i64 1 ∧ BlkV wr w.heap.size 39 (cellsC v 1 0)) ∨ (s9 = .int .i64 2 ∧ BlkV wr w.heap.size 39 (cellsC v 2 0)) ∨ (s9 = .int .i64 3 ∧ BlkV wr w.heap.size 39 (cellsC v 3 0)) ∨ (s9 = .int .i64 4 ∧ BlkV wr w.heap.size 39 (cellsC v 4 0))) ∧ Below w.heap.size w wr) (fun v _ => 4 - (RowKit.intOf v).toNat)
  case atStart => exact ⟨Or.inl ⟨rfl, K0.out⟩, B0.out⟩
  case round =>
    obtain ⟨hcs, hbw⟩ := hrel
    replace B0 := Lib.hid hbw
    clear hbw K0
    obtain ⟨rfl, hk⟩ | ⟨rfl, hk⟩ | ⟨rfl, hk⟩ | ⟨rfl, hk⟩ | ⟨rfl, hk⟩ := hcs
    · have K0 := Lib.hid hk
      clear hk
      go_wp2
      have BY : Hid (wrap64 (bits .and .u32 ((v : Int) / 16777216) 255) = (byt v 0 : Int)) := byt_val v 0 hv _ (by show _ = ((v / 16777216 : Nat) : Int); omega)
      rw [BY.out]
      clear BY BA
      go_loopw [19] (fun s19 wu => ((s19 = .int .i64 0 ∧ BlkV wu w.heap.size 39 (cellsC v 0 0)) ∨ (s19 = .int .i64 1 ∧ BlkV wu w.heap.size 39 (cellsC v 0 1)) ∨ (s19 = .int .i64 2 ∧ BlkV wu w.heap.size 39 (cellsC v 0 2))) ∧ Below w.heap.size w wu) (fun v _ => 2 - (RowKit.intOf v).toNat)
      case atStart => exact ⟨Or.inl ⟨rfl, K0.out⟩, B0.out⟩
      case round =>
        obtain ⟨hcs, hbw⟩ := hrel
        replace B0 := Lib.hid hbw
        clear hbw K0
        obtain ⟨rfl, hk⟩ | ⟨rfl, hk⟩ | ⟨rfl, hk⟩ := hcs
        · have K0 := Lib.hid hk
          clear hk
          have ST : Hid (((cellsC v 0 0).setIfInBounds 1 (.int .u8 ((cx (byt v 0) 0 : Nat) : Int))).setIfInBounds 5 (.int .u8 ((cy (byt v 0) 0 : Nat) : Int)) = cellsC v 0 1) := cellsC_step v 0 0 (by omega) (by omega)
          have hb := byt_lt v 0
          have AT := Lib.hid (fun n (hn : n < nst (byt v 0) 0) => bar_at hb (k := 0) (by omega) hn)
          obtain ⟨hN, hE0, hgx, hgy, -⟩ := bar_end hb (k := 0) (by omega)
          have EB := Lib.hid hE0
          have hqx := qx_le (k := 0) hb
          have hqv : qx (byt v 0) 0 = (byt v 0) / 4 + 48 + (byt v 0) % 4 := by unfold qx; simp
          unfold cx cy at ST EB
          unfold cx at hgx
          unfold cy at hgy
          have hc1 := goodC_le hgx
          have hc2 := goodC_le hgy
          clear hE0 hgx hgy
          generalize nst (byt v 0) 0 = N at *
          generalize qx (byt v 0) 0 = q at *
          generalize byt v 0 = b at *
          obtain ⟨r, hr⟩ : ∃ r, r = b / 4 + 48 := ⟨_, rfl⟩
          rw [← hr] at ST EB AT hc2
          have htm : (b : Int).tmod 4 = (b : Int) % 4 := Int.tmod_eq_emod_of_nonneg (by omega)
          have htd : (b : Int).tdiv 4 = (b : Int) / 4 := Int.tdiv_eq_ediv_of_nonneg (by omega)
          go_wp2_with fail
          go_loopw [7, 8] (fun s7 s8 wv => ∃ n X Y : Nat, n ≤ N ∧ X = q + n ∧ Y = r - n ∧ s7 = .int .i64 X ∧ s8 = .int .i64 Y ∧ BlkV wv w.heap.size 39 (cellsC v 0 0) ∧ Below w.heap.size w wv) (fun v _ _ => 200 - (RowKit.intOf v).toNat)
          case atStart => exact ⟨0, q, r, Nat.zero_le _, rfl, rfl, int_eq (by omega), int_eq (by omega), K0.out, B0.out⟩
          case round =>
            obtain ⟨n, X, Y, hn, hX, hY, rfl, rfl, hkk, hbw⟩ := hrel
            have HX := Lib.hid hX
            have HY := Lib.hid hY
            have hXY : X ≤ 150 ∧ 1 ≤ Y ∧ Y ≤ 200 ∧ X = q + n := by omega
            obtain ⟨hX1, hY1, hY2, -⟩ := hXY
            replace K0 := Lib.hid hkk
            replace B0 := Lib.hid hbw
            clear hkk hbw htm htd
            have CX := Lib.hid (fun W (h : BarE W) => isBarred_any X (by omega) W h)
            have CY := Lib.hid (fun W (h : BarE W) => isBarred_any Y (by omega) W h)
            by_cases hlt : n < N
            · have hab := AT.out n hlt
              rw [← HX.out, ← HY.out] at hab
              unfold bar2 at hab
              generalize barB X = bx at *
              generalize barB Y = cy at *
              clear AT EB ST hX hY
              cases bx with
              | true =>
                go_wp2_with fail
                refine (CX.out _ (EN.out.keep B0.out)).mono ?_
                rintro e w1 ⟨rfl, hb1⟩
                replace B0 := Lib.hid (below_mono B0.out hb1)
                replace K0 := Lib.hid (K0.out.keep hb1)
                clear hb1
                go_wp2
                go_roundw
                case rel => exact ⟨n + 1, X + 1, Y - 1, by omega, by rw [HX.out]; omega, by rw [HY.out]; omega, int_eq (by omega), int_eq (by omega), K0.out, B0.out⟩
                case measure => simp [RowKit.intOf]; omega
              | false =>
                have hcy : cy = true := hab
                subst hcy
                go_wp2_with fail
                refine (CX.out _ (EN.out.keep B0.out)).mono ?_
                rintro e w1 ⟨rfl, hb1⟩
                replace B0 := Lib.hid (below_mono B0.out hb1)
                replace K0 := Lib.hid (K0.out.keep hb1)
                clear hb1
                go_wp2_with fail
                refine (CY.out _ (EN.out.keep B0.out)).mono ?_
                rintro e w1 ⟨rfl, hb1⟩
                replace B0 := Lib.hid (below_mono B0.out hb1)
                replace K0 := Lib.hid (K0.out.keep hb1)
                clear hb1
                go_wp2
                go_roundw
                case rel => exact ⟨n + 1, X + 1, Y - 1, by omega, by rw [HX.out]; omega, by rw [HY.out]; omega, int_eq (by omega), int_eq (by omega), K0.out, B0.out⟩
                case measure => simp [RowKit.intOf]; omega
            · obtain rfl : n = N := by omega
              have hab := EB.out
              rw [← HX.out, ← HY.out] at hab ST
              unfold bar2 at hab
              generalize barB X = bx at *
              generalize barB Y = cy at *
              clear AT EB hX hY
              obtain ⟨rfl, rfl⟩ := Bool.or_eq_false_iff.1 hab
              go_wp2_with fail
              refine (CX.out _ (EN.out.keep B0.out)).mono ?_
              rintro e w1 ⟨rfl, hb1⟩
              replace B0 := Lib.hid (below_mono B0.out hb1)
              replace K0 := Lib.hid (K0.out.keep hb1)
              clear hb1
              go_wp2_with fail
              refine (CY.out _ (EN.out.keep B0.out)).mono ?_
              rintro e w1 ⟨rfl, hb1⟩
              replace B0 := Lib.hid (below_mono B0.out hb1)
              replace K0 := Lib.hid (K0.out.keep hb1)
              clear hb1
              have PU := Lib.hid ((K0.out.set_ 1 (.int .u8 (X : Int))).set_ 5 (.int .u8 (Y : Int)))
              rw [ST.out] at PU
              have PB := Lib.hid ((B0.out.setCell (p := ⟨w.heap.size, 1, none⟩) (Nat.le_refl _) (.int .u8 (X : Int))).setCell (p := ⟨w.heap.size, 5, none⟩) (Nat.le_refl _) (.int .u8 (Y : Int)))
              obtain ⟨x1, hx1⟩ := cellsC_at v 0 0 1 (by omega)
              obtain ⟨x2, hx2⟩ := cellsC_at v 0 0 5 (by omega)
              have f1 := K0.out.frozen 1
              have f2 := (K0.out.set_ 1 (.int .u8 (X : Int))).frozen 5
              have l1 := K0.out.at_ 1 hx1
              have l2 := (K0.out.set_ 1 (.int .u8 (X : Int))).at_ 5 (by rw [Array.getElem?_setIfInBounds_ne (by omega)]; exact hx2)
              have u1 : IntKind.u8.wrap (X : Int) = (X : Int) := by rw [IntKind.wrap_u8]; omega
              have u2 : IntKind.u8.wrap (Y : Int) = (Y : Int) := by rw [IntKind.wrap_u8]; omega
              clear hx1 hx2 hab ST
              go_wp2
              go_roundw
              case rel => exact ⟨Or.inr (Or.inl ⟨by go_num, PU.out⟩), PB.out⟩
              case measure => simp [RowKit.intOf]
        · have K0 := Lib.hid hk
          clear hk
          have ST : Hid (((cellsC v 0 1).setIfInBounds 9 (.int .u8 ((cx (byt v 0) 1 : Nat) : Int))).setIfInBounds 13 (.int .u8 ((cy (byt v 0) 1 : Nat) : Int)) = cellsC v 0 2) := cellsC_step v 0 1 (by omega) (by omega)
          have hb := byt_lt v 0
          have AT := Lib.hid (fun n (hn : n < nst (byt v 0) 1) => bar_at hb (k := 1) (by omega) hn)
          obtain ⟨hN, hE0, hgx, hgy, -⟩ := bar_end hb (k := 1) (by omega)
          have EB := Lib.hid hE0
          have hqx := qx_le (k := 1) hb
          have hqv : qx (byt v 0) 1 = (byt v 0) / 4 + 48 := by unfold qx; simp
          unfold cx cy at ST EB
          unfold cx at hgx
          unfold cy at hgy
          have hc1 := goodC_le hgx
          have hc2 := goodC_le hgy
          clear hE0 hgx hgy
          generalize nst (byt v 0) 1 = N at *
          generalize qx (byt v 0) 1 = q at *
          generalize byt v 0 = b at *
          obtain ⟨r, hr⟩ : ∃ r, r = b / 4 + 48 := ⟨_, rfl⟩
          rw [← hr] at ST EB AT hc2
          have htm : (b : Int).tmod 4 = (b : Int) % 4 := Int.tmod_eq_emod_of_nonneg (by omega)
          have htd : (b : Int).tdiv 4 = (b : Int) / 4 := Int.tdiv_eq_ediv_of_nonneg (by omega)
          go_wp2_with fail
          go_loopw [7, 8] (fun s7 s8 wv => ∃ n X Y : Nat, n ≤ N ∧ X = q + n ∧ Y = r - n ∧ s7 = .int .i64 X ∧ s8 = .int .i64 Y ∧ BlkV wv w.heap.size 39 (cellsC v 0 1) ∧ Below w.heap.size w wv) (fun v _ _ => 200 - (RowKit.intOf v).toNat)
          case atStart => exact ⟨0, q, r, Nat.zero_le _, rfl, rfl, int_eq (by omega), int_eq (by omega), K0.out, B0.out⟩
          case round =>
            obtain ⟨n, X, Y, hn, hX, hY, rfl, rfl, hkk, hbw⟩ := hrel
            have HX := Lib.hid hX
            have HY := Lib.hid hY
            have hXY : X ≤ 150 ∧ 1 ≤ Y ∧ Y ≤ 200 ∧ X = q + n := by omega
            obtain ⟨hX1, hY1, hY2, -⟩ := hXY
            replace K0 := Lib.hid hkk
            replace B0 := Lib.hid hbw
            clear hkk hbw htm htd
            have CX := Lib.hid (fun W (h : BarE W) => isBarred_any X (by omega) W h)
            have CY := Lib.hid (fun W (h : BarE W) => isBarred_any Y (by omega) W h)
            by_cases hlt : n < N
            · have hab := AT.out n hlt
              rw [← HX.out, ← HY.out] at hab
              unfold bar2 at hab
              generalize barB X = bx at *
              generalize barB Y = cy at *
              clear AT EB ST hX hY
              cases bx with
              | true =>
                go_wp2_with fail
                refine (CX.out _ (EN.out.keep B0.out)).mono ?_
                rintro e w1 ⟨rfl, hb1⟩
                replace B0 := Lib.hid (below_mono B0.out hb1)
                replace K0 := Lib.hid (K0.out.keep hb1)
                clear hb1
                go_wp2
                go_roundw
                case rel => exact ⟨n + 1, X + 1, Y - 1, by omega, by rw [HX.out]; omega, by rw [HY.out]; omega, int_eq (by omega), int_eq (by omega), K0.out, B0.out⟩
                case measure => simp [RowKit.intOf]; omega
              | false =>
                have hcy : cy = true := hab
                subst hcy
                go_wp2_with fail
                refine (CX.out _ (EN.out.keep B0.out)).mono ?_
                rintro e w1 ⟨rfl, hb1⟩
                replace B0 := Lib.hid (below_mono B0.out hb1)
                replace K0 := Lib.hid (K0.out.keep hb1)
                clear hb1
                go_wp2_with fail
                refine (CY.out _ (EN.out.keep B0.out)).mono ?_
                rintro e w1 ⟨rfl, hb1⟩
                replace B0 := Lib.hid (below_mono B0.out hb1)
                replace K0 := Lib.hid (K0.out.keep hb1)
                clear hb1
                go_wp2
                go_roundw
                case rel => exact ⟨n + 1, X + 1, Y - 1, by omega, by rw [HX.out]; omega, by rw [HY.out]; omega, int_eq (by omega), int_eq (by omega), K0.out, B0.out⟩
                case measure => simp [RowKit.intOf]; omega
            · obtain rfl : n = N := by omega
              have hab := EB.out
              rw [← HX.out, ← HY.out] at hab ST
              unfold bar2 at hab
              generalize barB X = bx at *
              generalize barB Y = cy at *
              clear AT EB hX hY
              obtain ⟨rfl, rfl⟩ := Bool.or_eq_false_iff.1 hab
              go_wp2_with fail
              refine (CX.out _ (EN.out.keep B0.out)).mono ?_
              rintro e w1 ⟨rfl, hb1⟩
              replace B0 := Lib.hid (below_mono B0.out hb1)
              replace K0 := Lib.hid (K0.out.keep hb1)
              clear hb1
              go_wp2_with fail
              refine (CY.out _ (EN.out.keep B0.out)).mono ?_
              rintro e w1 ⟨rfl, hb1⟩
              replace B0 := Lib.hid (below_mono B0.out hb1)
              replace K0 := Lib.hid (K0.out.keep hb1)
              clear hb1
              have PU := Lib.hid ((K0.out.set_ 9 (.int .u8 (X : Int))).set_ 13 (.int .u8 (Y : Int)))
              rw [ST.out] at PU
              have PB := Lib.hid ((B0.out.setCell (p := ⟨w.heap.size, 9, none⟩) (Nat.le_refl _) (.int .u8 (X : Int))).setCell (p := ⟨w.heap.size, 13, none⟩) (Nat.le_refl _) (.int .u8 (Y : Int)))
              obtain ⟨x1, hx1⟩ := cellsC_at v 0 1 9 (by omega)
              obtain ⟨x2, hx2⟩ := cellsC_at v 0 1 13 (by omega)
              have f1 := K0.out.frozen 9
              have f2 := (K0.out.set_ 9 (.int .u8 (X : Int))).frozen 13
              have l1 := K0.out.at_ 9 hx1
              have l2 := (K0.out.set_ 9 (.int .u8 (X : Int))).at_ 13 (by rw [Array.getElem?_setIfInBounds_ne (by omega)]; exact hx2)
              have u1 : IntKind.u8.wrap (X : Int) = (X : Int) := by rw [IntKind.wrap_u8]; omega
              have u2 : IntKind.u8.wrap (Y : Int) = (Y : Int) := by rw [IntKind.wrap_u8]; omega
              clear hx1 hx2 hab ST
              go_wp2
              go_roundw
              case rel => exact ⟨Or.inr (Or.inr ⟨by go_num, PU.out⟩), PB.out⟩
              case measure => simp [RowKit.intOf]
        · have K0 := Lib.hid hk
          clear hk
          have CN := Lib.hid (cellsC_next v 0 (by omega))
          rw [CN.out] at K0
          go_wp2
          go_roundw
          case rel => exact ⟨Or.inr (Or.inl ⟨by go_num, K0.out⟩), B0.out⟩
          case measure => simp [RowKit.intOf]
    · have K0 := Lib.hid hk
      clear hk
      go_wp2
      have BY : Hid (wrap64 (bits .and .u32 ((v : Int) / 65536) 255) = (byt v 1 : Int)) := byt_val v 1 hv _ (by show _ = ((v / 65536 : Nat) : Int); omega)
      rw [BY.out]
      clear BY BA
      go_loopw [19] (fun s19 wu => ((s19 = .int .i64 0 ∧ BlkV wu w.heap.size 39 (cellsC v 1 0)) ∨ (s19 = .int .i64 1 ∧ BlkV wu w.heap.size 39 (cellsC v 1 1)) ∨ (s19 = .int .i64 2 ∧ BlkV wu w.heap.size 39 (cellsC v 1 2))) ∧ Below w.heap.size w wu) (fun v _ => 2 - (RowKit.intOf v).toNat)
      case atStart => exact ⟨Or.inl ⟨rfl, K0.out⟩, B0.out⟩
      case round =>
        obtain ⟨hcs, hbw⟩ := hrel
        replace B0 := Lib.hid hbw
        clear hbw K0
        obtain ⟨rfl, hk⟩ | ⟨rfl, hk⟩ | ⟨rfl, hk⟩ := hcs
        · have K0 := Lib.hid hk
          clear hk
          have ST : Hid (((cellsC v 1 0).setIfInBounds 2 (.int .u8 ((cx (byt v 1) 0 : Nat) : Int))).setIfInBounds 6 (.int .u8 ((cy (byt v 1) 0 : Nat) : Int)) = cellsC v 1 1) := cellsC_step v 1 0 (by omega) (by omega)
          have hb := byt_lt v 1
          have AT := Lib.hid (fun n (hn : n < nst (byt v 1) 0) => bar_at hb (k := 0) (by omega) hn)
          obtain ⟨hN, hE0, hgx, hgy, -⟩ := bar_end hb (k := 0) (by omega)
          have EB := Lib.hid hE0
          have hqx := qx_le (k := 0) hb
          have hqv : qx (byt v 1) 0 = (byt v 1) / 4 + 48 + (byt v 1) % 4 := by unfold qx; simp
          unfold cx cy at ST EB
          unfold cx at hgx
          unfold cy at hgy
          have hc1 := goodC_le hgx
          have hc2 := goodC_le hgy
          clear hE0 hgx hgy
          generalize nst (byt v 1) 0 = N at *
          generalize qx (byt v 1) 0 = q at *
          generalize byt v 1 = b at *
          obtain ⟨r, hr⟩ : ∃ r, r = b / 4 + 48 := ⟨_, rfl⟩
          rw [← hr] at ST EB AT hc2
          have htm : (b : Int).tmod 4 = (b : Int) % 4 := Int.tmod_eq_emod_of_nonneg (by omega)
          have htd : (b : Int).tdiv 4 = (b : Int) / 4 := Int.tdiv_eq_ediv_of_nonneg (by omega)
          go_wp2_with fail
          go_loopw [7, 8] (fun s7 s8 wv => ∃ n X Y : Nat, n ≤ N ∧ X = q + n ∧ Y = r - n ∧ s7 = .int .i64 X ∧ s8 = .int .i64 Y ∧ BlkV wv w.heap.size 39 (cellsC v 1 0) ∧ Below w.heap.size w wv) (fun v _ _ => 200 - (RowKit.intOf v).toNat)
          case atStart => exact ⟨0, q, r, Nat.zero_le _, rfl, rfl, int_eq (by omega), int_eq (by omega), K0.out, B0.out⟩
          case round =>
            obtain ⟨n, X, Y, hn, hX, hY, rfl, rfl, hkk, hbw⟩ := hrel
            have HX := Lib.hid hX
            have HY := Lib.hid hY
            have hXY : X ≤ 150 ∧ 1 ≤ Y ∧ Y ≤ 200 ∧ X = q + n := by omega
            obtain ⟨hX1, hY1, hY2, -⟩ := hXY
            replace K0 := Lib.hid hkk
            replace B0 := Lib.hid hbw
            clear hkk hbw htm htd
            have CX := Lib.hid (fun W (h : BarE W) => isBarred_any X (by omega) W h)
            have CY := Lib.hid (fun W (h : BarE W) => isBarred_any Y (by omega) W h)
            by_cases hlt : n < N
            · have hab := AT.out n hlt
              rw [← HX.out, ← HY.out] at hab
              unfold bar2 at hab
              generalize barB X = bx at *
              generalize barB Y = cy at *
              clear AT EB ST hX hY
              cases bx with
              | true =>
                go_wp2_with fail
                refine (CX.out _ (EN.out.keep B0.out)).mono ?_
                rintro e w1 ⟨rfl, hb1⟩
                replace B0 := Lib.hid (below_mono B0.out hb1)
                replace K0 := Lib.hid (K0.out.keep hb1)
                clear hb1
                go_wp2
                go_roundw
                case rel => exact ⟨n + 1, X + 1, Y - 1, by omega, by rw [HX.out]; omega, by rw [HY.out]; omega, int_eq (by omega), int_eq (by omega), K0.out, B0.out⟩
                case measure => simp [RowKit.intOf]; omega
              | false =>
                have hcy : cy = true := hab
                subst hcy
                go_wp2_with fail
                refine (CX.out _ (EN.out.keep B0.out)).mono ?_
                rintro e w1 ⟨rfl, hb1⟩
                replace B0 := Lib.hid (below_mono B0.out hb1)
                replace K0 := Lib.hid (K0.out.keep hb1)
                clear hb1
                go_wp2_with fail
                refine (CY.out _ (EN.out.keep B0.out)).mono ?_
                rintro e w1 ⟨rfl, hb1⟩
                replace B0 := Lib.hid (below_mono B0.out hb1)
                replace K0 := Lib.hid (K0.out.keep hb1)
                clear hb1
                go_wp2
                go_roundw
                case rel => exact ⟨n + 1, X + 1, Y - 1, by omega, by rw [HX.out]; omega, by rw [HY.out]; omega, int_eq (by omega), int_eq (by omega), K0.out, B0.out⟩
                case measure => simp [RowKit.intOf]; omega
            · obtain rfl : n = N := by omega
              have hab := EB.out
              rw [← HX.out, ← HY.out] at hab ST
              unfold bar2 at hab
              generalize barB X = bx at *
              generalize barB Y = cy at *
              clear AT EB hX hY
              obtain ⟨rfl, rfl⟩ := Bool.or_eq_false_iff.1 hab
              go_wp2_with fail
              refine (CX.out _ (EN.out.keep B0.out)).mono ?_
              rintro e w1 ⟨rfl, hb1⟩
              replace B0 := Lib.hid (below_mono B0.out hb1)
              replace K0 := Lib.hid (K0.out.keep hb1)
              clear hb1
              go_wp2_with fail
              refine (CY.out _ (EN.out.keep B0.out)).mono ?_
              rintro e w1 ⟨rfl, hb1⟩
              replace B0 := Lib.hid (below_mono B0.out hb1)
              replace K0 := Lib.hid (K0.out.keep hb1)
              clear hb1
              have PU := Lib.hid ((K0.out.set_ 2 (.int .u8 (X : Int))).set_ 6 (.int .u8 (Y : Int)))
              rw [ST.out] at PU
              have PB := Lib.hid ((B0.out.setCell (p := ⟨w.heap.size, 2, none⟩) (Nat.le_refl _) (.int .u8 (X : Int))).setCell (p := ⟨w.heap.size, 6, none⟩) (Nat.le_refl _) (.int .u8 (Y : Int)))
              obtain ⟨x1, hx1⟩ := cellsC_at v 1 0 2 (by omega)
              obtain ⟨x2, hx2⟩ := cellsC_at v 1 0 6 (by omega)
              have f1 := K0.out.frozen 2
              have f2 := (K0.out.set_ 2 (.int .u8 (X : Int))).frozen 6
              have l1 := K0.out.at_ 2 hx1
              have l2 := (K0.out.set_ 2 (.int .u8 (X : Int))).at_ 6 (by rw [Array.getElem?_setIfInBounds_ne (by omega)]; exact hx2)
              have u1 : IntKind.u8.wrap (X : Int) = (X : Int) := by rw [IntKind.wrap_u8]; omega
              have u2 : IntKind.u8.wrap (Y : Int) = (Y : Int) := by rw [IntKind.wrap_u8]; omega
              clear hx1 hx2 hab ST
              go_wp2
              go_roundw
              case rel => exact ⟨Or.inr (Or.inl ⟨by go_num, PU.out⟩), PB.out⟩
              case measure => simp [RowKit.intOf]
        · have K0 := Lib.hid hk
          clear hk
          have ST : Hid (((cellsC v 1 1).setIfInBounds 10 (.int .u8 ((cx (byt v 1) 1 : Nat) : Int))).setIfInBounds 14 (.int .u8 ((cy (byt v 1) 1 : Nat) : Int)) = cellsC v 1 2) := cellsC_step v 1 1 (by omega) (by omega)
          have hb := byt_lt v 1
          have AT := Lib.hid (fun n (hn : n < nst (byt v 1) 1) => bar_at hb (k := 1) (by omega) hn)
          obtain ⟨hN, hE0, hgx, hgy, -⟩ := bar_end hb (k := 1) (by omega)
          have EB := Lib.hid hE0
          have hqx := qx_le (k := 1) hb
          have hqv : qx (byt v 1) 1 = (byt v 1) / 4 + 48 := by unfold qx; simp
          unfold cx cy at ST EB
          unfold cx at hgx
          unfold cy at hgy
          have hc1 := goodC_le hgx
          have hc2 := goodC_le hgy
          clear hE0 hgx hgy
          generalize nst (byt v 1) 1 = N at *
          generalize qx (byt v 1) 1 = q at *
          generalize byt v 1 = b at *
          obtain ⟨r, hr⟩ : ∃ r, r = b / 4 + 48 := ⟨_, rfl⟩
          rw [← hr] at ST EB AT hc2
          have htm : (b : Int).tmod 4 = (b : Int) % 4 := Int.tmod_eq_emod_of_nonneg (by omega)
          have htd : (b : Int).tdiv 4 = (b : Int) / 4 := Int.tdiv_eq_ediv_of_nonneg (by omega)
          go_wp2_with fail
          go_loopw [7, 8] (fun s7 s8 wv => ∃ n X Y : Nat, n ≤ N ∧ X = q + n ∧ Y = r - n ∧ s7 = .int .i64 X ∧ s8 = .int .i64 Y ∧ BlkV wv w.heap.size 39 (cellsC v 1 1) ∧ Below w.heap.size w wv) (fun v _ _ => 200 - (RowKit.intOf v).toNat)
          case atStart => exact ⟨0, q, r, Nat.zero_le _, rfl, rfl, int_eq (by omega), int_eq (by omega), K0.out, B0.out⟩
          case round =>
            obtain ⟨n, X, Y, hn, hX, hY, rfl, rfl, hkk, hbw⟩ := hrel
            have HX := Lib.hid hX
            have HY := Lib.hid hY
            have hXY : X ≤ 150 ∧ 1 ≤ Y ∧ Y ≤ 200 ∧ X = q + n := by omega
            obtain ⟨hX1, hY1, hY2, -⟩ := hXY
            replace K0 := Lib.hid hkk
            replace B0 := Lib.hid hbw
            clear hkk hbw htm htd
            have CX := Lib.hid (fun W (h : BarE W) => isBarred_any X (by omega) W h)
            have CY := Lib.hid (fun W (h : BarE W) => isBarred_any Y (by omega) W h)
            by_cases hlt : n < N
            · have hab := AT.out n hlt
              rw [← HX.out, ← HY.out] at hab
              unfold bar2 at hab
              generalize barB X = bx at *
              generalize barB Y = cy at *
              clear AT EB ST hX hY
              cases bx with
              | true =>
                go_wp2_with fail
                refine (CX.out _ (EN.out.keep B0.out)).mono ?_
                rintro e w1 ⟨rfl, hb1⟩
                replace B0 := Lib.hid (below_mono B0.out hb1)
                replace K0 := Lib.hid (K0.out.keep hb1)
                clear hb1
                go_wp2
                go_roundw
                case rel => exact ⟨n + 1, X + 1, Y - 1, by omega, by rw [HX.out]; omega, by rw [HY.out]; omega, int_eq (by omega), int_eq (by omega), K0.out, B0.out⟩
                case measure => simp [RowKit.intOf]; omega
              | false =>
                have hcy : cy = true := hab
                subst hcy
                go_wp2_with fail
                refine (CX.out _ (EN.out.keep B0.out)).mono ?_
                rintro e w1 ⟨rfl, hb1⟩
                replace B0 := Lib.hid (below_mono B0.out hb1)
                replace K0 := Lib.hid (K0.out.keep hb1)
                clear hb1
                go_wp2_with fail
                refine (CY.out _ (EN.out.keep B0.out)).mono ?_
                rintro e w1 ⟨rfl, hb1⟩
                replace B0 := Lib.hid (below_mono B0.out hb1)
                replace K0 := Lib.hid (K0.out.keep hb1)
                clear hb1
                go_wp2
                go_roundw
                case rel => exact ⟨n + 1, X + 1, Y - 1, by omega, by rw [HX.out]; omega, by rw [HY.out]; omega, int_eq (by omega), int_eq (by omega), K0.out, B0.out⟩
                case measure => simp [RowKit.intOf]; omega
            · obtain rfl : n = N := by omega
              have hab := EB.out
              rw [← HX.out, ← HY.out] at hab ST
              unfold bar2 at hab
              generalize barB X = bx at *
              generalize barB Y = cy at *
              clear AT EB hX hY
              obtain ⟨rfl, rfl⟩ := Bool.or_eq_false_iff.1 hab
              go_wp2_with fail
              refine (CX.out _ (EN.out.keep B0.out)).mono ?_
              rintro e w1 ⟨rfl, hb1⟩
              replace B0 := Lib.hid (below_mono B0.out hb1)
              replace K0 := Lib.hid (K0.out.keep hb1)
              clear hb1
              go_wp2_with fail
              refine (CY.out _ (EN.out.keep B0.out)).mono ?_
              rintro e w1 ⟨rfl, hb1⟩
              replace B0 := Lib.hid (below_mono B0.out hb1)
              replace K0 := Lib.hid (K0.out.keep hb1)
              clear hb1
              have PU := Lib.hid ((K0.out.set_ 10 (.int .u8 (X : Int))).set_ 14 (.int .u8 (Y : Int)))
              rw [ST.out] at PU
              have PB := Lib.hid ((B0.out.setCell (p := ⟨w.heap.size, 10, none⟩) (Nat.le_refl _) (.int .u8 (X : Int))).setCell (p := ⟨w.heap.size, 14, none⟩) (Nat.le_refl _) (.int .u8 (Y : Int)))
              obtain ⟨x1, hx1⟩ := cellsC_at v 1 1 10 (by omega)
              obtain ⟨x2, hx2⟩ := cellsC_at v 1 1 14 (by omega)
              have f1 := K0.out.frozen 10
              have f2 := (K0.out.set_ 10 (.int .u8 (X : Int))).frozen 14
              have l1 := K0.out.at_ 10 hx1
              have l2 := (K0.out.set_ 10 (.int .u8 (X : Int))).at_ 14 (by rw [Array.getElem?_setIfInBounds_ne (by omega)]; exact hx2)
              have u1 : IntKind.u8.wrap (X : Int) = (X : Int) := by rw [IntKind.wrap_u8]; omega
              have u2 : IntKind.u8.wrap (Y : Int) = (Y : Int) := by rw [IntKind.wrap_u8]; omega
              clear hx1 hx2 hab ST
              go_wp2
              go_roundw
              case rel => exact ⟨Or.inr (Or.inr ⟨by go_num, PU.out⟩), PB.out⟩
              case measure => simp [RowKit.intOf]
        · have K0 := Lib.hid hk
          clear hk
          have CN := Lib.hid (cellsC_next v 1 (by omega))
          rw [CN.out] at K0
          go_wp2
          go_roundw
          case rel => exact ⟨Or.inr (Or.inr (Or.inl ⟨by go_num, K0.out⟩)), B0.out⟩
          case measure => simp [RowKit.intOf]
    · have K0 := Lib.hid hk
      clear hk
      go_wp2
      have BY : Hid (wrap64 (bits .and .u32 ((v : Int) / 256) 255) = (byt v 2 : Int)) := byt_val v 2 hv _ (by show _ = ((v / 256 : Nat) : Int); omega)
      rw [BY.out]
      clear BY BA
      go_loopw [19] (fun s19 wu => ((s19 = .int .i64 0 ∧ BlkV wu w.heap.size 39 (cellsC v 2 0)) ∨ (s19 = .int .i64 1 ∧ BlkV wu w.heap.size 39 (cellsC v 2 1)) ∨ (s19 = .int .i64 2 ∧ BlkV wu w.heap.size 39 (cellsC v 2 2))) ∧ Below w.heap.size w wu) (fun v _ => 2 - (RowKit.intOf v).toNat)
      case atStart => exact ⟨Or.inl ⟨rfl, K0.out⟩, B0.out⟩
      case round =>
        obtain ⟨hcs, hbw⟩ := hrel
        replace B0 := Lib.hid hbw
        clear hbw K0
        obtain ⟨rfl, hk⟩ | ⟨rfl, hk⟩ | ⟨rfl, hk⟩ := hcs
        · have K0 := Lib.hid hk
          clear hk
          have ST : Hid (((cellsC v 2 0).setIfInBounds 3 (.int .u8 ((cx (byt v 2) 0 : Nat) : Int))).setIfInBounds 7 (.int .u8 ((cy (byt v 2) 0 : Nat) : Int)) = cellsC v 2 1) := cellsC_step v 2 0 (by omega) (by omega)
          have hb := byt_lt v 2
          have AT := Lib.hid (fun n (hn : n < nst (byt v 2) 0) => bar_at hb (k := 0) (by omega) hn)
          obtain ⟨hN, hE0, hgx, hgy, -⟩ := bar_end hb (k := 0) (by omega)
          have EB := Lib.hid hE0
          have hqx := qx_le (k := 0) hb
          have hqv : qx (byt v 2) 0 = (byt v 2) / 4 + 48 + (byt v 2) % 4 := by unfold qx; simp
          unfold cx cy at ST EB
          unfold cx at hgx
          unfold cy at hgy
          have hc1 := goodC_le hgx
          have hc2 := goodC_le hgy
          clear hE0 hgx hgy
          generalize nst (byt v 2) 0 = N at *
          generalize qx (byt v 2) 0 = q at *
          generalize byt v 2 = b at *
          obtain ⟨r, hr⟩ : ∃ r, r = b / 4 + 48 := ⟨_, rfl⟩
          rw [← hr] at ST EB AT hc2
          have htm : (b : Int).tmod 4 = (b : Int) % 4 := Int.tmod_eq_emod_of_nonneg (by omega)
          have htd : (b : Int).tdiv 4 = (b : Int) / 4 := Int.tdiv_eq_ediv_of_nonneg (by omega)
          go_wp2_with fail
          go_loopw [7, 8] (fun s7 s8 wv => ∃ n X Y : Nat, n ≤ N ∧ X = q + n ∧ Y = r - n ∧ s7 = .int .i64 X ∧ s8 = .int .i64 Y ∧ BlkV wv w.heap.size 39 (cellsC v 2 0) ∧ Below w.heap.size w wv) (fun v _ _ => 200 - (RowKit.intOf v).toNat)
          case atStart => exact ⟨0, q, r, Nat.zero_le _, rfl, rfl, int_eq (by omega), int_eq (by omega), K0.out, B0.out⟩
          case round =>
            obtain ⟨n, X, Y, hn, hX, hY, rfl, rfl, hkk, hbw⟩ := hrel
            have HX := Lib.hid hX
            have HY := Lib.hid hY
            have hXY : X ≤ 150 ∧ 1 ≤ Y ∧ Y ≤ 200 ∧ X = q + n := by omega
            obtain ⟨hX1, hY1, hY2, -⟩ := hXY
            replace K0 := Lib.hid hkk
            replace B0 := Lib.hid hbw
            clear hkk hbw htm htd
            have CX := Lib.hid (fun W (h : BarE W) => isBarred_any X (by omega) W h)
            have CY := Lib.hid (fun W (h : BarE W) => isBarred_any Y (by omega) W h)
            by_cases hlt : n < N
            · have hab := AT.out n hlt
              rw [← HX.out, ← HY.out] at hab
              unfold bar2 at hab
              generalize barB X = bx at *
              generalize barB Y = cy at *
              clear AT EB ST hX hY
              cases bx with
              | true =>
                go_wp2_with fail
                refine (CX.out _ (EN.out.keep B0.out)).mono ?_
                rintro e w1 ⟨rfl, hb1⟩
                replace B0 := Lib.hid (below_mono B0.out hb1)
                replace K0 := Lib.hid (K0.out.keep hb1)
                clear hb1
                go_wp2
                go_roundw
                case rel => exact ⟨n + 1, X + 1, Y - 1, by omega, by rw [HX.out]; omega, by rw [HY.out]; omega, int_eq (by omega), int_eq (by omega), K0.out, B0.out⟩
                case measure => simp [RowKit.intOf]; omega
              | false =>
                have hcy : cy = true := hab
                subst hcy
                go_wp2_with fail
                refine (CX.out _ (EN.out.keep B0.out)).mono ?_
                rintro e w1 ⟨rfl, hb1⟩
                replace B0 := Lib.hid (below_mono B0.out hb1)
                replace K0 := Lib.hid (K0.out.keep hb1)
                clear hb1
                go_wp2_with fail
                refine (CY.out _ (EN.out.keep B0.out)).mono ?_
                rintro e w1 ⟨rfl, hb1⟩
                replace B0 := Lib.hid (below_mono B0.out hb1)
                replace K0 := Lib.hid (K0.out.keep hb1)
                clear hb1
                go_wp2
                go_roundw
                case rel => exact ⟨n + 1, X + 1, Y - 1, by omega, by rw [HX.out]; omega, by rw [HY.out]; omega, int_eq (by omega), int_eq (by omega), K0.out, B0.out⟩
                case measure => simp [RowKit.intOf]; omega
            · obtain rfl : n = N := by omega
              have hab := EB.out
              rw [← HX.out, ← HY.out] at hab ST
              unfold bar2 at hab
              generalize barB X = bx at *
              generalize barB Y = cy at *
              clear AT EB hX hY
              obtain ⟨rfl, rfl⟩ := Bool.or_eq_false_iff.1 hab
              go_wp2_with fail
              refine (CX.out _ (EN.out.keep B0.out)).mono ?_
              rintro e w1 ⟨rfl, hb1⟩
              replace B0 := Lib.hid (below_mono B0.out hb1)
              replace K0 := Lib.hid (K0.out.keep hb1)
              clear hb1
              go_wp2_with fail
              refine (CY.out _ (EN.out.keep B0.out)).mono ?_
              rintro e w1 ⟨rfl, hb1⟩
              replace B0 := Lib.hid (below_mono B0.out hb1)
              replace K0 := Lib.hid (K0.out.keep hb1)
              clear hb1
              have PU := Lib.hid ((K0.out.set_ 3 (.int .u8 (X : Int))).set_ 7 (.int .u8 (Y : Int)))
              rw [ST.out] at PU
              have PB := Lib.hid ((B0.out.setCell (p := ⟨w.heap.size, 3, none⟩) (Nat.le_refl _) (.int .u8 (X : Int))).setCell (p := ⟨w.heap.size, 7, none⟩) (Nat.le_refl _) (.int .u8 (Y : Int)))
              obtain ⟨x1, hx1⟩ := cellsC_at v 2 0 3 (by omega)
              obtain ⟨x2, hx2⟩ := cellsC_at v 2 0 7 (by omega)
              have f1 := K0.out.frozen 3
              have f2 := (K0.out.set_ 3 (.int .u8 (X : Int))).frozen 7
              have l1 := K0.out.at_ 3 hx1
              have l2 := (K0.out.set_ 3 (.int .u8 (X : Int))).at_ 7 (by rw [Array.getElem?_setIfInBounds_ne (by omega)]; exact hx2)
              have u1 : IntKind.u8.wrap (X : Int) = (X : Int) := by rw [IntKind.wrap_u8]; omega
              have u2 : IntKind.u8.wrap (Y : Int) = (Y : Int) := by rw [IntKind.wrap_u8]; omega
              clear hx1 hx2 hab ST
              go_wp2
              go_roundw
              case rel => exact ⟨Or.inr (Or.inl ⟨by go_num, PU.out⟩), PB.out⟩
              case measure => simp [RowKit.intOf]
        · have K0 := Lib.hid hk
          clear hk
          have ST : Hid (((cellsC v 2 1).setIfInBounds 11 (.int .u8 ((cx (byt v 2) 1 : Nat) : Int))).setIfInBounds 15 (.int .u8 ((cy (byt v 2) 1 : Nat) : Int)) = cellsC v 2 2) := cellsC_step v 2 1 (by omega) (by omega)
          have hb := byt_lt v 2
          have AT := Lib.hid (fun n (hn : n < nst (byt v 2) 1) => bar_at hb (k := 1) (by omega) hn)
          obtain ⟨hN, hE0, hgx, hgy, -⟩ := bar_end hb (k := 1) (by omega)
          have EB := Lib.hid hE0
          have hqx := qx_le (k := 1) hb
          have hqv : qx (byt v 2) 1 = (byt v 2) / 4 + 48 := by unfold qx; simp
          unfold cx cy at ST EB
          unfold cx at hgx
          unfold cy at hgy
          have hc1 := goodC_le hgx
          have hc2 := goodC_le hgy
          clear hE0 hgx hgy
          generalize nst (byt v 2) 1 = N at *
          generalize qx (byt v 2) 1 = q at *
          generalize byt v 2 = b at *
          obtain ⟨r, hr⟩ : ∃ r, r = b / 4 + 48 := ⟨_, rfl⟩
          rw [← hr] at ST EB AT hc2
          have htm : (b : Int).tmod 4 = (b : Int) % 4 := Int.tmod_eq_emod_of_nonneg (by omega)
          have htd : (b : Int).tdiv 4 = (b : Int) / 4 := Int.tdiv_eq_ediv_of_nonneg (by omega)
          go_wp2_with fail
          go_loopw [7, 8] (fun s7 s8 wv => ∃ n X Y : Nat, n ≤ N ∧ X = q + n ∧ Y = r - n ∧ s7 = .int .i64 X ∧ s8 = .int .i64 Y ∧ BlkV wv w.heap.size 39 (cellsC v 2 1) ∧ Below w.heap.size w wv) (fun v _ _ => 200 - (RowKit.intOf v).toNat)
          case atStart => exact ⟨0, q, r, Nat.zero_le _, rfl, rfl, int_eq (by omega), int_eq (by omega), K0.out, B0.out⟩
          case round =>
            obtain ⟨n, X, Y, hn, hX, hY, rfl, rfl, hkk, hbw⟩ := hrel
            have HX := Lib.hid hX
            have HY := Lib.hid hY
            have hXY : X ≤ 150 ∧ 1 ≤ Y ∧ Y ≤ 200 ∧ X = q + n := by omega
            obtain ⟨hX1, hY1, hY2, -⟩ := hXY
            replace K0 := Lib.hid hkk
            replace B0 := Lib.hid hbw
            clear hkk hbw htm htd
            have CX := Lib.hid (fun W (h : BarE W) => isBarred_any X (by omega) W h)
            have CY := Lib.hid (fun W (h : BarE W) => isBarred_any Y (by omega) W h)
            by_cases hlt : n < N
            · have hab := AT.out n hlt
              rw [← HX.out, ← HY.out] at hab
              unfold bar2 at hab
              generalize barB X = bx at *
              generalize barB Y = cy at *
              clear AT EB ST hX hY
              cases bx with
              | true =>
                go_wp2_with fail
                refine (CX.out _ (EN.out.keep B0.out)).mono ?_
                rintro e w1 ⟨rfl, hb1⟩
                replace B0 := Lib.hid (below_mono B0.out hb1)
                replace K0 := Lib.hid (K0.out.keep hb1)
                clear hb1
                go_wp2
                go_roundw
                case rel => exact ⟨n + 1, X + 1, Y - 1, by omega, by rw [HX.out]; omega, by rw [HY.out]; omega, int_eq (by omega), int_eq (by omega), K0.out, B0.out⟩
                case measure => simp [RowKit.intOf]; omega
              | false =>
                have hcy : cy = true := hab
                subst hcy
                go_wp2_with fail
                refine (CX.out _ (EN.out.keep B0.out)).mono ?_
                rintro e w1 ⟨rfl, hb1⟩
                replace B0 := Lib.hid (below_mono B0.out hb1)
                replace K0 := Lib.hid (K0.out.keep hb1)
                clear hb1
                go_wp2_with fail
                refine (CY.out _ (EN.out.keep B0.out)).mono ?_
                rintro e w1 ⟨rfl, hb1⟩
                replace B0 := Lib.hid (below_mono B0.out hb1)
                replace K0 := Lib.hid (K0.out.keep hb1)
                clear hb1
                go_wp2
                go_roundw
                case rel => exact ⟨n + 1, X + 1, Y - 1, by omega, by rw [HX.out]; omega, by rw [HY.out]; omega, int_eq (by omega), int_eq (by omega), K0.out, B0.out⟩
                case measure => simp [RowKit.intOf]; omega
            · obtain rfl : n = N := by omega
              have hab := EB.out
              rw [← HX.out, ← HY.out] at hab ST
              unfold bar2 at hab
              generalize barB X = bx at *
              generalize barB Y = cy at *
              clear AT EB hX hY
              obtain ⟨rfl, rfl⟩ := Bool.or_eq_false_iff.1 hab
              go_wp2_with fail
              refine (CX.out _ (EN.out.keep B0.out)).mono ?_
              rintro e w1 ⟨rfl, hb1⟩
              replace B0 := Lib.hid (below_mono B0.out hb1)
              replace K0 := Lib.hid (K0.out.keep hb1)
              clear hb1
              go_wp2_with fail
              refine (CY.out _ (EN.out.keep B0.out)).mono ?_
              rintro e w1 ⟨rfl, hb1⟩
              replace B0 := Lib.hid (below_mono B0.out hb1)
              replace K0 := Lib.hid (K0.out.keep hb1)
              clear hb1
              have PU := Lib.hid ((K0.out.set_ 11 (.int .u8 (X : Int))).set_ 15 (.int .u8 (Y : Int)))
              rw [ST.out] at PU
              have PB := Lib.hid ((B0.out.setCell (p := ⟨w.heap.size, 11, none⟩) (Nat.le_refl _) (.int .u8 (X : Int))).setCell (p := ⟨w.heap.size, 15, none⟩) (Nat.le_refl _) (.int .u8 (Y : Int)))
              obtain ⟨x1, hx1⟩ := cellsC_at v 2 1 11 (by omega)
              obtain ⟨x2, hx2⟩ := cellsC_at v 2 1 15 (by omega)
              have f1 := K0.out.frozen 11
              have f2 := (K0.out.set_ 11 (.int .u8 (X : Int))).frozen 15
              have l1 := K0.out.at_ 11 hx1
              have l2 := (K0.out.set_ 11 (.int .u8 (X : Int))).at_ 15 (by rw [Array.getElem?_setIfInBounds_ne (by omega)]; exact hx2)
              have u1 : IntKind.u8.wrap (X : Int) = (X : Int) := by rw [IntKind.wrap_u8]; omega
              have u2 : IntKind.u8.wrap (Y : Int) = (Y : Int) := by rw [IntKind.wrap_u8]; omega
              clear hx1 hx2 hab ST
              go_wp2
              go_roundw
              case rel => exact ⟨Or.inr (Or.inr ⟨by go_num, PU.out⟩), PB.out⟩
              case measure => simp [RowKit.intOf]
        · have K0 := Lib.hid hk
          clear hk
          have CN := Lib.hid (cellsC_next v 2 (by omega))
          rw [CN.out] at K0
          go_wp2
          go_roundw
          case rel => exact ⟨Or.inr (Or.inr (Or.inr (Or.inl ⟨by go_num, K0.out⟩))), B0.out⟩
          case measure => simp [RowKit.intOf]
    · have K0 := Lib.hid hk
      clear hk
      go_wp2
      have BY : Hid (wrap64 (bits .and .u32 ((v : Int)) 255) = (byt v 3 : Int)) := byt_val v 3 hv _ (by show _ = ((v / 1 : Nat) : Int); omega)
      rw [BY.out]
      clear BY BA
      go_loopw [19] (fun s19 wu => ((s19 = .int .i64 0 ∧ BlkV wu w.heap.size 39 (cellsC v 3 0)) ∨ (s19 = .int .i64 1 ∧ BlkV wu w.heap.size 39 (cellsC v 3 1)) ∨ (s19 = .int .i64 2 ∧ BlkV wu w.heap.size 39 (cellsC v 3 2))) ∧ Below w.heap.size w wu) (fun v _ => 2 - (RowKit.intOf v).toNat)
      case atStart => exact ⟨Or.inl ⟨rfl, K0.out⟩, B0.out⟩
      case round =>
        obtain ⟨hcs, hbw⟩ := hrel
        replace B0 := Lib.hid hbw
        clear hbw K0
        obtain ⟨rfl, hk⟩ | ⟨rfl, hk⟩ | ⟨rfl, hk⟩ := hcs
        · have K0 := Lib.hid hk
          clear hk
          have ST : Hid (((cellsC v 3 0).setIfInBounds 4 (.int .u8 ((cx (byt v 3) 0 : Nat) : Int))).setIfInBounds 8 (.int .u8 ((cy (byt v 3) 0 : Nat) : Int)) = cellsC v 3 1) := cellsC_step v 3 0 (by omega) (by omega)
          have hb := byt_lt v 3
          have AT := Lib.hid (fun n (hn : n < nst (byt v 3) 0) => bar_at hb (k := 0) (by omega) hn)
          obtain ⟨hN, hE0, hgx, hgy, -⟩ := bar_end hb (k := 0) (by omega)
          have EB := Lib.hid hE0
          have hqx := qx_le (k := 0) hb
          have hqv : qx (byt v 3) 0 = (byt v 3) / 4 + 48 + (byt v 3) % 4 := by unfold qx; simp
          unfold cx cy at ST EB
          unfold cx at hgx
          unfold cy at hgy
          have hc1 := goodC_le hgx
          have hc2 := goodC_le hgy
          clear hE0 hgx hgy
          generalize nst (byt v 3) 0 = N at *
          generalize qx (byt v 3) 0 = q at *
          generalize byt v 3 = b at *
          obtain ⟨r, hr⟩ : ∃ r, r = b / 4 + 48 := ⟨_, rfl⟩
          rw [← hr] at ST EB AT hc2
          have htm : (b : Int).tmod 4 = (b : Int) % 4 := Int.tmod_eq_emod_of_nonneg (by omega)
          have htd : (b : Int).tdiv 4 = (b : Int) / 4 := Int.tdiv_eq_ediv_of_nonneg (by omega)
          go_wp2_with fail
          go_loopw [7, 8] (fun s7 s8 wv => ∃ n X Y : Nat, n ≤ N ∧ X = q + n ∧ Y = r - n ∧ s7 = .int .i64 X ∧ s8 = .int .i64 Y ∧ BlkV wv w.heap.size 39 (cellsC v 3 0) ∧ Below w.heap.size w wv) (fun v _ _ => 200 - (RowKit.intOf v).toNat)
          case atStart => exact ⟨0, q, r, Nat.zero_le _, rfl, rfl, int_eq (by omega), int_eq (by omega), K0.out, B0.out⟩
          case round =>
            obtain ⟨n, X, Y, hn, hX, hY, rfl, rfl, hkk, hbw⟩ := hrel
            have HX := Lib.hid hX
            have HY := Lib.hid hY
            have hXY : X ≤ 150 ∧ 1 ≤ Y ∧ Y ≤ 200 ∧ X = q + n := by omega
            obtain ⟨hX1, hY1, hY2, -⟩ := hXY
            replace K0 := Lib.hid hkk
            replace B0 := Lib.hid hbw
            clear hkk hbw htm htd
            have CX := Lib.hid (fun W (h : BarE W) => isBarred_any X (by omega) W h)
            have CY := Lib.hid (fun W (h : BarE W) => isBarred_any Y (by omega) W h)
            by_cases hlt : n < N
            · have hab := AT.out n hlt
              rw [← HX.out, ← HY.out] at hab
              unfold bar2 at hab
              generalize barB X = bx at *
              generalize barB Y = cy at *
              clear AT EB ST hX hY
              cases bx with
              | true =>
                go_wp2_with fail
                refine (CX.out _ (EN.out.keep B0.out)).mono ?_
                rintro e w1 ⟨rfl, hb1⟩
                replace B0 := Lib.hid (below_mono B0.out hb1)
                replace K0 := Lib.hid (K0.out.keep hb1)
                clear hb1
                go_wp2
                go_roundw
                case rel => exact ⟨n + 1, X + 1, Y - 1, by omega, by rw [HX.out]; omega, by rw [HY.out]; omega, int_eq (by omega), int_eq (by omega), K0.out, B0.out⟩
                case measure => simp [RowKit.intOf]; omega
              | false =>
                have hcy : cy = true := hab
                subst hcy
                go_wp2_with fail
                refine (CX.out _ (EN.out.keep B0.out)).mono ?_
                rintro e w1 ⟨rfl, hb1⟩
                replace B0 := Lib.hid (below_mono B0.out hb1)
                replace K0 := Lib.hid (K0.out.keep hb1)
                clear hb1
                go_wp2_with fail
                refine (CY.out _ (EN.out.keep B0.out)).mono ?_
                rintro e w1 ⟨rfl, hb1⟩
                replace B0 := Lib.hid (below_mono B0.out hb1)
                replace K0 := Lib.hid (K0.out.keep hb1)
                clear hb1
                go_wp2
                go_roundw
                case rel => exact ⟨n + 1, X + 1, Y - 1, by omega, by rw [HX.out]; omega, by rw [HY.out]; omega, int_eq (by omega), int_eq (by omega), K0.out, B0.out⟩
                case measure => simp [RowKit.intOf]; omega
            · obtain rfl : n = N := by omega
              have hab := EB.out
              rw [← HX.out, ← HY.out] at hab ST
              unfold bar2 at hab
              generalize barB X = bx at *
              generalize barB Y = cy at *
              clear AT EB hX hY
              obtain ⟨rfl, rfl⟩ := Bool.or_eq_false_iff.1 hab
              go_wp2_with fail
              refine (CX.out _ (EN.out.keep B0.out)).mono ?_
              rintro e w1 ⟨rfl, hb1⟩
              replace B0 := Lib.hid (below_mono B0.out hb1)
              replace K0 := Lib.hid (K0.out.keep hb1)
              clear hb1
              go_wp2_with fail
              refine (CY.out _ (EN.out.keep B0.out)).mono ?_
              rintro e w1 ⟨rfl, hb1⟩
              replace B0 := Lib.hid (below_mono B0.out hb1)
              replace K0 := Lib.hid (K0.out.keep hb1)
              clear hb1
              have PU := Lib.hid ((K0.out.set_ 4 (.int .u8 (X : Int))).set_ 8 (.int .u8 (Y : Int)))
              rw [ST.out] at PU
              have PB := Lib.hid ((B0.out.setCell (p := ⟨w.heap.size, 4, none⟩) (Nat.le_refl _) (.int .u8 (X : Int))).setCell (p := ⟨w.heap.size, 8, none⟩) (Nat.le_refl _) (.int .u8 (Y : Int)))
              obtain ⟨x1, hx1⟩ := cellsC_at v 3 0 4 (by omega)
              obtain ⟨x2, hx2⟩ := cellsC_at v 3 0 8 (by omega)
              have f1 := K0.out.frozen 4
              have f2 := (K0.out.set_ 4 (.int .u8 (X : Int))).frozen 8
              have l1 := K0.out.at_ 4 hx1
              have l2 := (K0.out.set_ 4 (.int .u8 (X : Int))).at_ 8 (by rw [Array.getElem?_setIfInBounds_ne (by omega)]; exact hx2)
              have u1 : IntKind.u8.wrap (X : Int) = (X : Int) := by rw [IntKind.wrap_u8]; omega
              have u2 : IntKind.u8.wrap (Y : Int) = (Y : Int) := by rw [IntKind.wrap_u8]; omega
              clear hx1 hx2 hab ST
              go_wp2
              go_roundw
              case rel => exact ⟨Or.inr (Or.inl ⟨by go_num, PU.out⟩), PB.out⟩
              case measure => simp [RowKit.intOf]
        · have K0 := Lib.hid hk
          clear hk
          have ST : Hid (((cellsC v 3 1).setIfInBounds 12 (.int .u8 ((cx (byt v 3) 1 : Nat) : Int))).setIfInBounds 0 (.int .u8 ((cy (byt v 3) 1 : Nat) : Int)) = cellsC v 3 2) := cellsC_step v 3 1 (by omega) (by omega)
          have hb := byt_lt v 3
          have AT := Lib.hid (fun n (hn : n < nst (byt v 3) 1) => bar_at hb (k := 1) (by omega) hn)
          obtain ⟨hN, hE0, hgx, hgy, -⟩ := bar_end hb (k := 1) (by omega)
          have EB := Lib.hid hE0
          have hqx := qx_le (k := 1) hb
          have hqv : qx (byt v 3) 1 = (byt v 3) / 4 + 48 := by unfold qx; simp
          unfold cx cy at ST EB
          unfold cx at hgx
          unfold cy at hgy
          have hc1 := goodC_le hgx
          have hc2 := goodC_le hgy
          clear hE0 hgx hgy
          generalize nst (byt v 3) 1 = N at *
          generalize qx (byt v 3) 1 = q at *
          generalize byt v 3 = b at *
          obtain ⟨r, hr⟩ : ∃ r, r = b / 4 + 48 := ⟨_, rfl⟩
          rw [← hr] at ST EB AT hc2
          have htm : (b : Int).tmod 4 = (b : Int) % 4 := Int.tmod_eq_emod_of_nonneg (by omega)
          have htd : (b : Int).tdiv 4 = (b : Int) / 4 := Int.tdiv_eq_ediv_of_nonneg (by omega)
          go_wp2_with fail
          go_loopw [7, 8] (fun s7 s8 wv => ∃ n X Y : Nat, n ≤ N ∧ X = q + n ∧ Y = r - n ∧ s7 = .int .i64 X ∧ s8 = .int .i64 Y ∧ BlkV wv w.heap.size 39 (cellsC v 3 1) ∧ Below w.heap.size w wv) (fun v _ _ => 200 - (RowKit.intOf v).toNat)
          case atStart => exact ⟨0, q, r, Nat.zero_le _, rfl, rfl, int_eq (by omega), int_eq (by omega), K0.out, B0.out⟩
          case round =>
            obtain ⟨n, X, Y, hn, hX, hY, rfl, rfl, hkk, hbw⟩ := hrel
            have HX := Lib.hid hX
            have HY := Lib.hid hY
            have hXY : X ≤ 150 ∧ 1 ≤ Y ∧ Y ≤ 200 ∧ X = q + n := by omega
            obtain ⟨hX1, hY1, hY2, -⟩ := hXY
            replace K0 := Lib.hid hkk
            replace B0 := Lib.hid hbw
            clear hkk hbw htm htd
            have CX := Lib.hid (fun W (h : BarE W) => isBarred_any X (by omega) W h)
            have CY := Lib.hid (fun W (h : BarE W) => isBarred_any Y (by omega) W h)
            by_cases hlt : n < N
            · have hab := AT.out n hlt
              rw [← HX.out, ← HY.out] at hab
              unfold bar2 at hab
              generalize barB X = bx at *
              generalize barB Y = cy at *
              clear AT EB ST hX hY
              cases bx with
              | true =>
                go_wp2_with fail
                refine (CX.out _ (EN.out.keep B0.out)).mono ?_
                rintro e w1 ⟨rfl, hb1⟩
                replace B0 := Lib.hid (below_mono B0.out hb1)
                replace K0 := Lib.hid (K0.out.keep hb1)
                clear hb1
                go_wp2
                go_roundw
                case rel => exact ⟨n + 1, X + 1, Y - 1, by omega, by rw [HX.out]; omega, by rw [HY.out]; omega, int_eq (by omega), int_eq (by omega), K0.out, B0.out⟩
                case measure => simp [RowKit.intOf]; omega
              | false =>
                have hcy : cy = true := hab
                subst hcy
                go_wp2_with fail
                refine (CX.out _ (EN.out.keep B0.out)).mono ?_
                rintro e w1 ⟨rfl, hb1⟩
                replace B0 := Lib.hid (below_mono B0.out hb1)
                replace K0 := Lib.hid (K0.out.keep hb1)
                clear hb1
                go_wp2_with fail
                refine (CY.out _ (EN.out.keep B0.out)).mono ?_
                rintro e w1 ⟨rfl, hb1⟩
                replace B0 := Lib.hid (below_mono B0.out hb1)
                replace K0 := Lib.hid (K0.out.keep hb1)
                clear hb1
                go_wp2
                go_roundw
                case rel => exact ⟨n + 1, X + 1, Y - 1, by omega, by rw [HX.out]; omega, by rw [HY.out]; omega, int_eq (by omega), int_eq (by omega), K0.out, B0.out⟩
                case measure => simp [RowKit.intOf]; omega
            · obtain rfl : n = N := by omega
              have hab := EB.out
              rw [← HX.out, ← HY.out] at hab ST
              unfold bar2 at hab
              generalize barB X = bx at *
              generalize barB Y = cy at *
              clear AT EB hX hY
              obtain ⟨rfl, rfl⟩ := Bool.or_eq_false_iff.1 hab
              go_wp2_with fail
              refine (CX.out _ (EN.out.keep B0.out)).mono ?_
              rintro e w1 ⟨rfl, hb1⟩
              replace B0 := Lib.hid (below_mono B0.out hb1)
              replace K0 := Lib.hid (K0.out.keep hb1)
              clear hb1
              go_wp2_with fail
              refine (CY.out _ (EN.out.keep B0.out)).mono ?_
              rintro e w1 ⟨rfl, hb1⟩
              replace B0 := Lib.hid (below_mono B0.out hb1)
              replace K0 := Lib.hid (K0.out.keep hb1)
              clear hb1
              have PU := Lib.hid ((K0.out.set_ 12 (.int .u8 (X : Int))).set_ 0 (.int .u8 (Y : Int)))
              rw [ST.out] at PU
              have PB := Lib.hid ((B0.out.setCell (p := ⟨w.heap.size, 12, none⟩) (Nat.le_refl _) (.int .u8 (X : Int))).setCell (p := ⟨w.heap.size, 0, none⟩) (Nat.le_refl _) (.int .u8 (Y : Int)))
              obtain ⟨x1, hx1⟩ := cellsC_at v 3 1 12 (by omega)
              obtain ⟨x2, hx2⟩ := cellsC_at v 3 1 0 (by omega)
              have f1 := K0.out.frozen 12
              have f2 := (K0.out.set_ 12 (.int .u8 (X : Int))).frozen 0
              have l1 := K0.out.at_ 12 hx1
              have l2 := (K0.out.set_ 12 (.int .u8 (X : Int))).at_ 0 (by rw [Array.getElem?_setIfInBounds_ne (by omega)]; exact hx2)
              have u1 : IntKind.u8.wrap (X : Int) = (X : Int) := by rw [IntKind.wrap_u8]; omega
              have u2 : IntKind.u8.wrap (Y : Int) = (Y : Int) := by rw [IntKind.wrap_u8]; omega
              clear hx1 hx2 hab ST
              go_wp2
              go_roundw
              case rel => exact ⟨Or.inr (Or.inr ⟨by go_num, PU.out⟩), PB.out⟩
              case measure => simp [RowKit.intOf]
        · have K0 := Lib.hid hk
          clear hk
          have CN := Lib.hid (cellsC_next v 3 (by omega))
          rw [CN.out] at K0
          go_wp2
          go_roundw
          case rel => exact ⟨Or.inr (Or.inr (Or.inr (Or.inr (⟨by go_num, K0.out⟩)))), B0.out⟩
          case measure => simp [RowKit.intOf]
    · have K0 := Lib.hid hk
      clear hk
      have hcv : Hid (∀ W, BlkV W w.heap.size 39 (cellsC v 4 0) → (convert 41 9 (.slice (some ⟨w.heap.size, 0, none⟩) 16 16)).run Tryd.prog W = .ok (.string ⟨(codeS v).toArray⟩) W) := fun W hW => code_conv v W w.heap.size hW
      go_wp2
      rw [hcv.out _ K0.out]
      go_wp2
      go_ret
      exact ⟨rfl, B0.out⟩

end Go.Proofs.YtgkamalgokebgaaDoor

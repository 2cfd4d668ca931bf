import Derived.Test.YtgkamalgokebgaaDoorFr2
import Derived.Laws.IdiomStrings
namespace Go.Proofs.YtgkamalgokebgaaDoor
open Go.RowKit Go.Lib Go.Shelf
attribute [local go_sem ↓] Go.wp_at_zero Go.wp_at_succ
theorem fill_nil (x : UInt8) : (fillS [] x).length = 0 := rfl

theorem fill0 (w : World) : Calls Tryd.prog 26 #[.slice none 0 0, .int .u8 0] w fun e w' => ∃ g, e = .returned (.slice (some ⟨g, 0, none⟩) (fillS [] 0).length (fillS [] 0).length) ∧ w.heap.size ≤ g ∧ BlkV w' g 5 (Lib.byteCells (fillS [] 0)).toArray ∧ Below w.heap.size w w' :=
  fill_any [] none 0 0 0 (by simp) w (fun h => by simp [Lib.byteCells] at h)

theorem conv_nil (W : World) (g : Nat) : (convert 41 9 (.slice (some ⟨g, 0, none⟩) 0 0)).run Tryd.prog W = .ok (.string ⟨#[]⟩) W :=
  run_convert_bytes_back (P := Tryd.prog) W 41 9 5 ⟨g, 0, none⟩ 0 [] (by kernel_rfl) (by kernel_rfl) (by kernel_rfl) (fun j hj => by simp at hj)

set_option maxRecDepth 100000 in
set_option maxHeartbeats 4000000 in
theorem size8 (w : World) : Calls Tryd.prog 15 #[.agg #[.int .i64 8, .slice none 0 0]] w fun e w' => e = .returned (.tuple #[.int .i64 0, .bool true]) ∧ Below w.heap.size w w' := by
  have B0 := Lib.hid (fun o => blw1 w o)
  go_enter Tryd.func15, Tryd.ntmps15
  go_wp2
  have HB := B0.out (.cells #[Value.int .i64 8, .slice none 0 0] 57)
  generalize hw0 : w.alloc (.cells #[Value.int .i64 8, .slice none 0 0] 57) = w0 at *
  clear hw0
  go_loopw [4, 38] (fun s s2 wr => s = .int .i64 0 ∧ s2 = .int .i64 0 ∧ wr = w0) (fun _ _ _ => 0)
  case atStart => exact ⟨rfl, rfl, rfl⟩
  case round =>
    obtain ⟨rfl, rfl, rfl⟩ := hrel
    go_wp2
    go_ret2
    exact ⟨rfl, HB⟩

set_option maxRecDepth 100000 in
set_option maxHeartbeats 4000000 in
theorem data8 (w : World) : Calls Tryd.prog 19 #[.agg #[.int .i64 8, .slice none 0 0, .slice none 0 0, .slice none 0 0]] w fun e w' => e = .returned (.string ⟨#[]⟩) ∧ Below w.heap.size w w' := by
  have FL := Lib.hid (fun W => fill0 W)
  have zc := Lib.hid (fun W g => conv_nil W g)
  have B0 := Lib.hid (fun o => blw1 w o)
  go_enter Tryd.func19, Tryd.ntmps19
  go_wp2_with fail
  have HB := Lib.hid (B0.out (.cells #[Value.int .i64 8, .slice none 0 0, .slice none 0 0, .slice none 0 0] 37))
  generalize hw0 : w.alloc (.cells #[Value.int .i64 8, .slice none 0 0, .slice none 0 0, .slice none 0 0] 37) = w0 at *
  clear hw0
  go_loopw [3, 10] (fun s s2 wr => s = .slice none 0 0 ∧ s2 = .int .i64 0 ∧ wr = w0) (fun _ _ _ => 0)
  case atStart => exact ⟨rfl, rfl, rfl⟩
  case round =>
    obtain ⟨rfl, rfl, rfl⟩ := hrel
    go_wp2_with fail
    refine (FL.out _).mono ?_
    rintro e w1 ⟨g, rfl, -, hk, hb⟩
    replace HB := Lib.hid (below_mono HB.out hb)
    clear hb
    have hcv := zc.out w1 g
    rw [fill_nil]
    go_wp2
    go_ret
    exact ⟨rfl, HB.out⟩

set_option maxRecDepth 100000 in
set_option maxHeartbeats 4000000 in
theorem check8 (w : World) : Calls Tryd.prog 11 #[.agg #[.int .i64 8, .slice none 0 0, .slice none 0 0, .slice none 0 0]] w fun e w' => e = .returned (.int .i64 0) ∧ Below w.heap.size w w' := by
  have SZ := Lib.hid size8
  have B0 := Lib.hid (fun o => blw1 w o)
  have K0 : Hid (BlkV (w.alloc (.cells #[Value.int .i64 8, .slice none 0 0, .slice none 0 0, .slice none 0 0] 37)) w.heap.size 37 #[Value.int .i64 8, .slice none 0 0, .slice none 0 0, .slice none 0 0]) := BlkV.fresh rfl _ _
  have K1 : Hid (BlkV ((w.alloc (.cells #[Value.int .i64 8, .slice none 0 0, .slice none 0 0, .slice none 0 0] 37)).alloc (.cells #[Value.int .i64 8, .slice none 0 0] 57)) w.heap.size 37 #[Value.int .i64 8, .slice none 0 0, .slice none 0 0, .slice none 0 0]) := K0.out.alloc _
  have HB : Hid (Below w.heap.size w ((w.alloc (.cells #[Value.int .i64 8, .slice none 0 0, .slice none 0 0, .slice none 0 0] 37)).alloc (.cells #[Value.int .i64 8, .slice none 0 0] 57))) := below_mono (B0.out _) (blw1 _ _)
  clear K0 B0
  go_enter Tryd.func11, Tryd.ntmps11
  go_wp2_with fail
  generalize ((w.alloc (.cells #[Value.int .i64 8, .slice none 0 0, .slice none 0 0, .slice none 0 0] 37)).alloc (.cells #[Value.int .i64 8, .slice none 0 0] 57)) = w0 at *
  refine (SZ.out _).mono ?_
  rintro e w1 ⟨rfl, hb⟩
  replace K1 := Lib.hid (K1.out.keep hb)
  replace HB := Lib.hid (below_mono HB.out hb)
  clear hb
  have c2 : w1.cell? ⟨w.heap.size, 2, none⟩ = some (.slice none 0 0) := K1.out.at_ 2 rfl
  have c3 : w1.cell? ⟨w.heap.size, 3, none⟩ = some (.slice none 0 0) := K1.out.at_ 3 rfl
  go_wp2
  go_loopw [38] (fun s wz => s = .int .i64 0 ∧ wz = w1) (fun _ _ => 0)
  case atStart => exact ⟨rfl, rfl⟩
  case round =>
    obtain ⟨rfl, rfl⟩ := hrel
    generalize wr = wq at *
    go_wp2
    go_loopw [50] (fun s wz => s = .int .i64 0 ∧ wz = wq) (fun _ _ => 0)
    case atStart => exact ⟨rfl, rfl⟩
    case round =>
      obtain ⟨rfl, rfl⟩ := hrel
      go_wp2
      go_ret
      exact ⟨rfl, HB.out⟩

end Go.Proofs.YtgkamalgokebgaaDoor

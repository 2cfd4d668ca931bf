import Derived.Test.YtgkamalgokebgaaDoorFr8
namespace Go.Proofs.YtgkamalgokebgaaDoor
open Go.RowKit Go.Lib Go.Shelf
attribute [local go_sem ↓] Go.wp_at_zero Go.wp_at_succ
set_option maxRecDepth 100000 in
set_option maxHeartbeats 4000000 in
theorem bytes8 (b : Nat) (w : World) (hE : Env w) (hB : BarE w) (hk : BlkV w b 37 #[Value.int .i64 8, .slice none 0 0, .slice none 0 0, .slice none 0 0]) : Calls Tryd.prog 8 #[.slice (some ⟨b, 0, none⟩) 1 1] w fun e w' => e = .returned (.tuple #[.string ⟨(unitS code1).toArray⟩, .int .i64 0]) ∧ Below w.heap.size w w' := by
  have C8 := Lib.hid check8
  have U8 := Lib.hid unit8
  have EN := Lib.hid hE
  have BE := Lib.hid hB
  have KB := Lib.hid hk
  have B0 := Lib.hid (Below.refl w.heap.size w)
  have UL := Lib.hid (unit_len code1 (.inr rfl))
  clear hE hB hk
  go_enter Tryd.func8, Tryd.ntmps8
  go_wp2
  go_loopw [22] (fun s22 wr => ∃ k : Nat, k ≤ 1 ∧ s22 = .int .i64 k ∧ Below w.heap.size w wr) (fun v _ => 2 - (RowKit.intOf v).toNat)
  case atStart => exact ⟨0, Nat.zero_le _, rfl, B0.out⟩
  case round =>
    clear B0
    obtain ⟨k, hk, rfl, hb⟩ := hrel
    have B0 := Lib.hid hb
    have KR := Lib.hid (KB.out.keep hb)
    clear hb
    obtain rfl | h1 : k = 0 ∨ k = 1 := by omega
    · skip
      have c0 : wr.cell? ⟨b, 0, none⟩ = some (.int .i64 8) := KR.out.at_ 0 rfl
      have c1 : wr.cell? ⟨b, 1, none⟩ = some (.slice none 0 0) := KR.out.at_ 1 rfl
      have c2 : wr.cell? ⟨b, 2, none⟩ = some (.slice none 0 0) := KR.out.at_ 2 rfl
      have c3 : wr.cell? ⟨b, 3, none⟩ = some (.slice none 0 0) := KR.out.at_ 3 rfl
      go_wp2_with fail
      have K2 : Hid (BlkV (wr.alloc (.cells #[Value.int .i64 8, .slice none 0 0, .slice none 0 0, .slice none 0 0] 37)) wr.heap.size 37 #[Value.int .i64 8, .slice none 0 0, .slice none 0 0, .slice none 0 0]) := BlkV.fresh rfl _ _
      have hb := blw1 wr (.cells #[Value.int .i64 8, .slice none 0 0, .slice none 0 0, .slice none 0 0] 37)
      generalize wr.alloc (.cells #[Value.int .i64 8, .slice none 0 0, .slice none 0 0, .slice none 0 0] 37) = w0 at *
      replace B0 := Lib.hid (below_mono B0.out hb)
      clear c0 c1 c2 c3 hb
      have c0 : w0.cell? ⟨wr.heap.size, 0, none⟩ = some (.int .i64 8) := K2.out.at_ 0 rfl
      have c1 : w0.cell? ⟨wr.heap.size, 1, none⟩ = some (.slice none 0 0) := K2.out.at_ 1 rfl
      have c2 : w0.cell? ⟨wr.heap.size, 2, none⟩ = some (.slice none 0 0) := K2.out.at_ 2 rfl
      have c3 : w0.cell? ⟨wr.heap.size, 3, none⟩ = some (.slice none 0 0) := K2.out.at_ 3 rfl
      go_wp2_with fail
      refine (C8.out _).mono ?_
      rintro e w1 ⟨rfl, hb⟩
      replace B0 := Lib.hid (below_mono B0.out hb)
      clear hb
      go_wp2
      go_roundw
      case rel => exact ⟨1, by omega, by go_num, B0.out⟩
      case measure => simp [RowKit.intOf]
    · generalize wr = wm at *
      have tk : decide ((k : Int) < (1 : Int)) = false := decide_eq_false (by omega)
      clear h1
      have K0 : Hid (Lib.IsBuilder 46 5 wm.heap.size wm.heap.size (Lib.byteCells []) (wm.alloc (.cells #[.pointer none, .slice none 0 0] 46))) := Lib.fresh_isBuilder _ _ wm
      have hb := blw1 wm (.cells #[.pointer none, .slice none 0 0] 46)
      go_wp2
      generalize wm.alloc (.cells #[.pointer none, .slice none 0 0] 46) = w0 at *
      have Y0 := Lib.hid hb
      clear hb
      go_loopw [34] (fun s34 wz => ∃ k : Nat, k ≤ 1 ∧ s34 = .int .i64 k ∧ Lib.IsBuilder 46 5 wm.heap.size wm.heap.size (Lib.byteCells (if k = 0 then [] else unitS code1)) wz ∧ Below wm.heap.size wm wz) (fun v _ => 2 - (RowKit.intOf v).toNat)
      case atStart => exact ⟨0, Nat.zero_le _, rfl, K0.out, Y0.out⟩
      case round =>
        clear Y0 K0
        obtain ⟨k, hk, rfl, hi, hb⟩ := hrel
        have Y0 := Lib.hid hb
        have K0 := Lib.hid hi
        have KZ := Lib.hid (KR.out.keep hb)
        clear hb hi
        obtain rfl | rfl : k = 0 ∨ k = 1 := by omega
        · rw [if_pos rfl] at K0
          have c0 : wr.cell? ⟨b, 0, none⟩ = some (.int .i64 8) := KZ.out.at_ 0 rfl
          have c1 : wr.cell? ⟨b, 1, none⟩ = some (.slice none 0 0) := KZ.out.at_ 1 rfl
          have c2 : wr.cell? ⟨b, 2, none⟩ = some (.slice none 0 0) := KZ.out.at_ 2 rfl
          have c3 : wr.cell? ⟨b, 3, none⟩ = some (.slice none 0 0) := KZ.out.at_ 3 rfl
          go_wp2_with fail
          have K2 : Hid (BlkV (wr.alloc (.cells #[Value.int .i64 8, .slice none 0 0, .slice none 0 0, .slice none 0 0] 37)) wr.heap.size 37 #[Value.int .i64 8, .slice none 0 0, .slice none 0 0, .slice none 0 0]) := BlkV.fresh rfl _ _
          have hb := blw1 wr (.cells #[Value.int .i64 8, .slice none 0 0, .slice none 0 0, .slice none 0 0] 37)
          generalize wr.alloc (.cells #[Value.int .i64 8, .slice none 0 0, .slice none 0 0, .slice none 0 0] 37) = w2 at *
          replace Y0 := Lib.hid (below_mono Y0.out hb)
          replace K0 := Lib.hid (IsBuilder.below_ K0.out hb)
          clear c0 c1 c2 c3 hb
          have c0 : w2.cell? ⟨wr.heap.size, 0, none⟩ = some (.int .i64 8) := K2.out.at_ 0 rfl
          have c1 : w2.cell? ⟨wr.heap.size, 1, none⟩ = some (.slice none 0 0) := K2.out.at_ 1 rfl
          have c2 : w2.cell? ⟨wr.heap.size, 2, none⟩ = some (.slice none 0 0) := K2.out.at_ 2 rfl
          have c3 : w2.cell? ⟨wr.heap.size, 3, none⟩ = some (.slice none 0 0) := K2.out.at_ 3 rfl
          have B1 := Lib.hid (below_mono B0.out Y0.out)
          go_wp2_with fail
          refine (U8.out _ (EN.out.keep B1.out) (BE.out.keep B1.out)).mono ?_
          rintro e w3 ⟨rfl, hb⟩
          replace Y0 := Lib.hid (below_mono Y0.out hb)
          replace K0 := Lib.hid (IsBuilder.below_ K0.out hb)
          clear hb c0 c1 c2 c3 B1
          have hul := UL.out
          go_wp2_with fail
          refine (bW_any _ _ [] _ _ K0.out (by rw [hul]; simp) Y0.out.size).mono ?_
          rintro e w4 ⟨rfl, hbd, hb⟩
          replace Y0 := Lib.hid (Y0.out.trans hb)
          have K4 := Lib.hid hbd
          clear hb hbd
          go_wp2
          go_roundw
          case rel => exact ⟨1, by omega, by go_num, K4.out, Y0.out⟩
          case measure => simp [RowKit.intOf]
        · rw [if_neg (by omega)] at K0
          go_wp2_with fail
          refine (Tryd.Builder_String_any wm.heap.size wm.heap.size (unitS code1) _ K0.out Y0.out.size).mono ?_
          rintro e w3 ⟨rfl, hb⟩
          replace Y0 := Lib.hid (Y0.out.trans hb)
          clear hb
          go_wp2
          go_ret2
          exact ⟨rfl, below_mono B0.out Y0.out⟩

theorem ext_list (l : List UInt8) (a b : Nat) : ((ByteArray.mk l.toArray).extract a b).toList = (l.take b).drop a := by
  rw [ByteArray.toList_eq, ByteArray.data_extract, Array.toList_extract]
  simp [List.extract_eq_take_drop, List.drop_take]

set_option maxRecDepth 100000 in
set_option maxHeartbeats 4000000 in
theorem alive_any (w : World) (hE : Env w) (hB : BarE w) : Calls Tryd.prog 5 #[] w fun e w' => e = .returned (.bool true) ∧ Below w.heap.size w w' := by
  have EN := Lib.hid hE
  have BE := Lib.hid hB
  have S1 : Hid (∀ W, Calls Tryd.prog 7 #[.string ⟨#[255, 255, 255, 255, 0, 0, 0, 2]⟩] W fun e w' => e = .returned (.tuple #[.int .u32 2, .int .i64 0]) ∧ Below W.heap.size W w') := fun W => by
    have h := sum_any [255, 255, 255, 255, 0, 0, 0, 2] (by decide) (by decide) W
    rw [sum_ex] at h
    exact h
  have CC : Hid (∀ W, BarE W → Calls Tryd.prog 6 #[.int .u32 3426738146] W fun e w' => e = .returned (.string ⟨#[104, 99, 72, 106, 106, 99, 57, 103, 104, 99, 69, 103, 104, 99, 57, 103]⟩) ∧ Below W.heap.size W w') := fun W h => by
    have h := code_any 3426738146 (by omega) W h
    rw [code_ex] at h
    exact h
  have hul := unit_len code1 (.inr rfl)
  have e1 : ((ByteArray.mk (unitS code1).toArray).extract 0 30).toList = [83, 73, 77, 80, 76, 69, 32, 32, 61, 32, 32, 32, 32, 32, 32, 32, 32, 32, 32, 32, 32, 32, 32, 32, 32, 32, 32, 32, 32, 84] := by
    rw [ext_list, List.drop_zero, unit_head]; rfl
  have e2 : ((ByteArray.mk (unitS code1).toArray).extract 240 260).toList = [68, 65, 84, 65, 83, 85, 77, 32, 61, 32, 39, 48, 32, 32, 32, 32, 32, 32, 32, 39] := by
    rw [ext_list, List.drop_take, unit_mid]
  have BY := Lib.hid bytes8
  clear hE hB
  generalize unitS code1 = U at *
  go_enter Tryd.func5, Tryd.ntmps5
  go_wp2_with fail
  refine (S1.out _).mono ?_
  rintro e w1 ⟨rfl, hb⟩
  have B0 := Lib.hid hb
  clear hb S1
  have KB : Hid (BlkV (w1.alloc (.cells #[Value.int .i64 8, .slice none 0 0, .slice none 0 0, .slice none 0 0] 37)) w1.heap.size 37 #[Value.int .i64 8, .slice none 0 0, .slice none 0 0, .slice none 0 0]) := BlkV.fresh rfl _ _
  have hb := blw1 w1 (.cells #[Value.int .i64 8, .slice none 0 0, .slice none 0 0, .slice none 0 0] 37)
  go_wp2_with fail
  generalize w1.alloc (.cells #[Value.int .i64 8, .slice none 0 0, .slice none 0 0, .slice none 0 0] 37) = w2 at *
  replace B0 := Lib.hid (below_mono B0.out hb)
  clear hb
  refine (BY.out _ _ (EN.out.keep B0.out) (BE.out.keep B0.out) KB.out).mono ?_
  rintro e w3 ⟨rfl, hb⟩
  replace B0 := Lib.hid (below_mono B0.out hb)
  clear hb KB BY
  go_wp2_with fail
  refine (CC.out _ (BE.out.keep B0.out)).mono ?_
  rintro e w4 ⟨rfl, hb⟩
  replace B0 := Lib.hid (below_mono B0.out hb)
  clear hb CC
  go_wp2_with fail
  go_ret
  exact ⟨rfl, B0.out⟩

end Go.Proofs.YtgkamalgokebgaaDoor

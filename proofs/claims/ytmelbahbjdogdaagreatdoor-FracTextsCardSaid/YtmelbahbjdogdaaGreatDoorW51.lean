/- Walks: the reference's Parse. -/
import Derived.Test.YtmelbahbjdogdaaGreatDoorW10
import Derived.Test.YtmelbahbjdogdaaGreatDoorW50
import Derived.Deep.RegionHeld3
namespace Go.Proofs.YtmelbahbjdogdaaGreatDoor
open Go.RowKit Go.Lib
attribute [local go_sem ↓] Go.wp_at_zero Go.wp_at_succ
/-- A result's box, kept. -/
structure PB (w : World) (W : World) : Prop where
  r : Cw W w.heap.size false none 0 0
  f : Fw W w.heap.size
  b : Below w.heap.size w W

theorem pb_fresh (w : World) (t : TypeId) : PB w (w.alloc (.cells #[.bool false, .slice none 0 0] t)) := ⟨Cw.fresh rfl _ _ _ _ _, Fw.fresh rfl _ _, blw1 _ _⟩

section
variable {w W v : World}
theorem PB.keep (h : PB w W) (hb : Below W.heap.size W v) : PB w v := ⟨h.r.keep hb, Fw.keep h.f h.r hb, below_mono h.b hb⟩

theorem PB.drew (h : PB w W) : PB w W.drew := ⟨h.r, h.f, h.b.drew⟩

theorem PB.alloc (h : PB w W) (o : Obj) : PB w (W.alloc o) := h.keep (blw1 _ _)

theorem PB.lt (h : PB w W) : w.heap.size < W.heap.size := lt_of_cell h.r.1

end
set_option maxRecDepth 100000 in
set_option maxHeartbeats 4000000 in
theorem rparse_neg (b : UInt8) (r : List UInt8) (w : World) (hlen : r.length ≤ 2999) (hd : digB (b :: r) = true) (hb : ((b.toNat : Int) == 48) = false) :
    Calls Tryz.prog 105 #[.string ⟨(45 :: b :: r).toArray⟩] w (WRes (outN true (dv (b :: r))) w) := by
  have Hd := Lib.hid (digB_iff.1 hd)
  have h45 : (45 : UInt8).toNat = 45 := rfl
  have hget : (ByteArray.mk (45 :: b :: r).toArray)[0]'(by simp [ByteArray.size]) = 45 := rfl
  have hget2 : (ByteArray.mk (b :: r).toArray)[0]'(by simp [ByteArray.size]) = b := rfl
  have hsz : (ByteArray.mk (45 :: b :: r).toArray).size = r.length + 2 := by simp [ByteArray.size]
  have hsz2 : (ByteArray.mk (b :: r).toArray).size = r.length + 1 := by simp [ByteArray.size]
  have hext : (ByteArray.mk (45 :: b :: r).toArray).extract 1 (r.length + 2) = ⟨(b :: r).toArray⟩ := by
    apply ByteArray.ext; simp [ByteArray.data_extract]
  have hz1 : ((r.length : Int) + 1 == 0) = false := by simp; omega
  clear hd
  go_enter Tryz.func105, Tryz.ntmps105
  go_wp2
  go_loop [5] (fun s5 => ∃ k : Nat, k ≤ r.length + 1 ∧ s5 = .int .i64 k) (fun s5 => r.length + 1 - (intOf s5).toNat)
  case atStart => exact ⟨0, by omega, rfl⟩
  case round =>
    obtain ⟨k, hk, rfl⟩ := hrel
    by_cases hkl : k < r.length + 1
    · have hdk := Hd.out ((b :: r)[k]'(by simp; exact hkl)) (List.getElem_mem _)
      have hgk : (ByteArray.mk (b :: r).toArray)[k]'(by rw [hsz2]; exact hkl) = (b :: r)[k]'(by simp; exact hkl) := rfl
      generalize (b :: r)[k]'(by simp; exact hkl) = x at *
      have dx1 : decide ((x.toNat : Int) < 48) = false := decide_eq_false (by omega)
      have dx2 : decide ((57 : Int) < (x.toNat : Int)) = false := decide_eq_false (by omega)
      go_wp2
      go_round
      case rel => exact ⟨k + 1, by omega, by go_num⟩
      case measure => simp [intOf]; omega
    · obtain rfl : k = r.length + 1 := by omega
      go_wp2
      generalize hW0 : w.alloc (.cells #[.bool false, .slice none 0 0] 24) = W0 at *
      have X00 : Hid (PB w W0) := hW0 ▸ pb_fresh w _
      clear hW0
      go_loopg [6, 7] (r.length + 1) (fun gf s6 s7 wx => ∃ (pos : Nat) (A6 : Option Addr) (c6 : Nat), pos ≤ r.length + 1 ∧ gf + pos = r.length + 1 ∧ s7 = .int .i64 pos ∧ s6 = .slice A6 (limbs (dv ((b :: r).take pos))).length c6 ∧ Sl wx A6 (limbs (dv ((b :: r).take pos))) c6 ∧ PB w wx)
      case atStart => exact ⟨0, none, 0, by omega, by omega, rfl, rfl, Sl.nil _ _ _, X00.out⟩
      case round =>
        clear X00
        obtain ⟨pos, A6, c6, hpos, hgf, rfl, rfl, s6, x0⟩ := hrel
        have S6 := Lib.hid s6
        have X0 := Lib.hid x0
        clear s6 x0
        have hltw : w.heap.size < wr.heap.size := X0.out.lt
        by_cases hps : pos < r.length + 1
        · have hgp : (ByteArray.mk (b :: r).toArray)[pos]'(by rw [hsz2]; exact hps) = (b :: r)[pos]'(by simp; exact hps) := rfl
          have hdg := Hd.out ((b :: r)[pos]'(by simp; exact hps)) (List.getElem_mem _)
          have Hdt2 : Hid (dv ((b :: r).take (pos + 1)) = 10 * dv ((b :: r).take pos) + (((b :: r)[pos]'(by simp; exact hps)).toNat - 48)) := by
            unfold Hid
            rw [← List.take_append_getElem (by simp; exact hps), dv_snoc]
          have hll : (limbs (dv ((b :: r).take pos))).length ≤ 400 := dv_limbs (fun c hc => Hd.out c (List.mem_of_mem_take hc)) (by rw [List.length_take]; simp; omega)
          have hll2 : (limbs (dv ((b :: r).take (pos + 1)))).length ≤ 400 := dv_limbs (fun c hc => Hd.out c (List.mem_of_mem_take hc)) (by rw [List.length_take]; simp; omega)
          have Hv := Lib.hid (val_limbs (dv ((b :: r).take pos)))
          generalize hvq : dv ((b :: r).take (pos + 1)) = vq at *
          have Hvq := Lib.hid hvq
          clear hvq
          generalize (b :: r)[pos]'(by simp; exact hps) = bb at *
          generalize limbs (dv ((b :: r).take pos)) = lc at *
          obtain ⟨x, hx⟩ : ∃ x, x = bb.toNat - 48 := ⟨_, rfl⟩
          have hxz : (bb.toNat : Int) - 48 = (x : Int) := by omega
          have hx9 : x ≤ 9 := by omega
          rw [← hx] at Hdt2
          have V7of : Hid (∀ v, v = val lc * val [10] → v = 10 * dv ((b :: r).take pos)) := by intro v h; rw [h, Hv.out]; simp [val]; omega
          have V8of : Hid (∀ v7 v, v7 = 10 * dv ((b :: r).take pos) → v = v7 + val [x] → v = vq) := by intro v7 v h7 h; rw [h, h7, Hdt2.out]; simp [val]
          clear hx
          have hwx8 : IntKind.u8.wrap (x : Int) = (x : Int) := by rw [IntKind.wrap_u8]; omega
          have hwx32 : IntKind.u32.wrap (x : Int) = (x : Int) := by rw [IntKind.wrap_u32]; omega
          have Sdb : Hid (Sl (((wr.alloc (.cells #[.int .u32 10] 50)).alloc (.cells #[.int .u32 (x : Nat)] 50)).drew) (some ⟨wr.heap.size + 1, 0, none⟩) [x] 1) := ⟨(Rd.one' (by simp) _ _).drew, lim_one (by omega), Nat.le_refl _, by simp⟩
          have Sdc : Hid (Sl (((wr.alloc (.cells #[.int .u32 (x : Nat)] 50)).alloc (.cells #[.int .u32 10] 50)).drew) (some ⟨wr.heap.size, 0, none⟩) [x] 1) := ⟨((Rd.one' rfl _ _).alloc _).drew, lim_one (by omega), Nat.le_refl _, by simp⟩
          have Ta : Hid (Calls Tryz.prog 80 #[.slice A6 lc.length c6, .slice (some ⟨wr.heap.size, 0, none⟩) 1 1] ((wr.alloc (.cells #[.int .u32 10] 50)).drew) (VRes (val lc * val [10]) (lc.length + 1) ((wr.alloc (.cells #[.int .u32 10] 50)).drew))) := rtimes_any A6 _ lc [10] c6 1 _ (S6.out.alloc _).drew ⟨(Rd.one' rfl _ _).drew, lim_one (by omega), Nat.le_refl _, by simp⟩ (by omega) (by simp)
          have Tb : Hid (Calls Tryz.prog 80 #[.slice A6 lc.length c6, .slice (some ⟨wr.heap.size, 0, none⟩) 1 1] (((wr.alloc (.cells #[.int .u32 10] 50)).alloc (.cells #[.int .u32 (x : Nat)] 50)).drew) (VRes (val lc * val [10]) (lc.length + 1) (((wr.alloc (.cells #[.int .u32 10] 50)).alloc (.cells #[.int .u32 (x : Nat)] 50)).drew))) := rtimes_any A6 _ lc [10] c6 1 _ ((S6.out.alloc _).alloc _).drew ⟨((Rd.one' rfl _ _).alloc _).drew, lim_one (by omega), Nat.le_refl _, by simp⟩ (by omega) (by simp)
          have Tc : Hid (Calls Tryz.prog 80 #[.slice A6 lc.length c6, .slice (some ⟨wr.heap.size + 1, 0, none⟩) 1 1] (((wr.alloc (.cells #[.int .u32 (x : Nat)] 50)).alloc (.cells #[.int .u32 10] 50)).drew) (VRes (val lc * val [10]) (lc.length + 1) (((wr.alloc (.cells #[.int .u32 (x : Nat)] 50)).alloc (.cells #[.int .u32 10] 50)).drew))) := rtimes_any A6 _ lc [10] c6 1 _ ((S6.out.alloc _).alloc _).drew ⟨(Rd.one' (by simp) _ _).drew, lim_one (by omega), Nat.le_refl _, by simp⟩ (by omega) (by simp)
          have Pa : Hid (∀ (v1 : World) (A7 : Option Addr) (x7 : List Nat) (c7 : Nat), Sl v1 A7 x7 c7 → x7.length ≤ 401 → Calls Tryz.prog 123 #[.slice A7 x7.length c7, .slice (some ⟨v1.heap.size, 0, none⟩) 1 1] (v1.alloc (.cells #[.int .u32 (x : Nat)] 50)) (VRes (val x7 + val [x]) (max x7.length 1 + 1) (v1.alloc (.cells #[.int .u32 (x : Nat)] 50)))) := fun v1 A7 x7 c7 h1 h2 => rplus_any A7 _ x7 [x] c7 1 _ (h1.alloc _) ⟨Rd.one _ _ _, lim_one (by omega), Nat.le_refl _, by simp⟩ (by omega) (by simp)
          have Pb : Hid (∀ (v1 : World) (g : Nat) (A7 : Option Addr) (x7 : List Nat) (c7 : Nat), Sl v1 A7 x7 c7 → x7.length ≤ 401 → Sl v1 (some ⟨g, 0, none⟩) [x] 1 → Calls Tryz.prog 123 #[.slice A7 x7.length c7, .slice (some ⟨g, 0, none⟩) 1 1] v1 (VRes (val x7 + val [x]) (max x7.length 1 + 1) v1)) := fun v1 g A7 x7 c7 h1 h2 h3 => rplus_any A7 _ x7 [x] c7 1 _ h1 h3 (by omega) (by simp)
          go_wp2_with fail
          go_region_held3 (fun w' => w'.cell? ⟨w.heap.size, 0, none⟩ = some (.bool false) ∧ w'.cell? ⟨w.heap.size, 1, none⟩ = some (.slice none 0 0))
            (first | exact X3.out.r | exact X2.out.r | exact (X1.out.alloc _).r | exact X1.out.r | exact ((X0.out.alloc _).alloc _).drew.r | exact (X0.out.alloc _).drew.r | exact X0.out.drew.r)
            (first
              | ((go_at_call 80; (with_reducible refine Ta.out.mono ?_); rintro e v1 ⟨A7, c7, x7, rfl, hs7, hv7, hn7, hb⟩; have S7 := Lib.hid hs7; have hn7' : x7.length ≤ 401 := (by omega); have V7 : Hid (val x7 = 10 * dv ((b :: r).take pos)) := V7of.out _ hv7; have X1 := Lib.hid ((X0.out.alloc _).drew.keep hb); clear hb hs7 hv7 hn7))
              | ((go_at_call 80; (with_reducible refine Tb.out.mono ?_); rintro e v1 ⟨A7, c7, x7, rfl, hs7, hv7, hn7, hb⟩; have S7 := Lib.hid hs7; have hn7' : x7.length ≤ 401 := (by omega); have V7 : Hid (val x7 = 10 * dv ((b :: r).take pos)) := V7of.out _ hv7; have X1 := Lib.hid (((X0.out.alloc _).alloc _).drew.keep hb); have Sd := Lib.hid (Sl.below Sdb.out hb); clear hb hs7 hv7 hn7))
              | ((go_at_call 80; (with_reducible refine Tc.out.mono ?_); rintro e v1 ⟨A7, c7, x7, rfl, hs7, hv7, hn7, hb⟩; have S7 := Lib.hid hs7; have hn7' : x7.length ≤ 401 := (by omega); have V7 : Hid (val x7 = 10 * dv ((b :: r).take pos)) := V7of.out _ hv7; have X1 := Lib.hid (((X0.out.alloc _).alloc _).drew.keep hb); have Sd := Lib.hid (Sl.below Sdc.out hb); clear hb hs7 hv7 hn7))
              | ((go_at_call 123; (with_reducible refine (Pa.out v1 A7 x7 c7 S7.out hn7').mono ?_); rintro e v2 ⟨A8, c8, x8, rfl, hs8, hv8, hn8, hb⟩; have S8 := Lib.hid hs8; have V8 : Hid (val x8 = vq) := V8of.out _ _ V7.out hv8; have X2 := Lib.hid ((X1.out.alloc _).keep hb); clear hb hs8 hv8 hn8))
              | ((go_at_call 123; (with_reducible refine (Pb.out v1 (wr.heap.size + 1) A7 x7 c7 S7.out hn7' Sd.out).mono ?_); rintro e v2 ⟨A8, c8, x8, rfl, hs8, hv8, hn8, hb⟩; have S8 := Lib.hid hs8; have V8 : Hid (val x8 = vq) := V8of.out _ _ V7.out hv8; have X2 := Lib.hid (X1.out.keep hb); clear hb hs8 hv8 hn8))
              | ((go_at_call 123; (with_reducible refine (Pb.out v1 (wr.heap.size) A7 x7 c7 S7.out hn7' Sd.out).mono ?_); rintro e v2 ⟨A8, c8, x8, rfl, hs8, hv8, hn8, hb⟩; have S8 := Lib.hid hs8; have V8 : Hid (val x8 = vq) := V8of.out _ _ V7.out hv8; have X2 := Lib.hid (X1.out.keep hb); clear hb hs8 hv8 hn8))
              | ((go_at_call 122; refine (rtrim_any A8 x8 c8 _ S8.out).mono ?_; rw [V8.out]; rintro e v3 ⟨A9, c9, rfl, hs9, hb⟩; have S9 := Lib.hid hs9; have X3 := Lib.hid (X2.out.keep hb); clear hb hs9)))
          all_goals
            go_wp2
            go_roundg (gk - 1)
            case measure => omega
            case rel => exact ⟨pos + 1, A9, c9, by omega, by omega, by go_num, by rw [Hvq.out], by rw [Hvq.out]; exact S9.out, X3.out⟩
        · obtain rfl : pos = r.length + 1 := by omega
          have Htt : Hid ((b :: r).take (r.length + 1) = b :: r) := List.take_of_length_le (Nat.le_refl _)
          rw [Htt.out] at S6
          rw [Htt.out]
          go_wp2_with fail
          refine (rmade_any true A6 (limbs (dv (b :: r))) c6 _ S6.out).mono ?_
          rw [val_limbs]
          generalize outN true (dv (b :: r)) = rs at *
          rintro e w8 ⟨A9, c9, rfl, hs9, hb⟩
          have S9 := Lib.hid hs9
          have X9 := Lib.hid (X0.out.keep hb)
          obtain ⟨r0, r1⟩ := X9.out.r
          obtain ⟨f0, f1⟩ := X9.out.f
          clear hb hs9
          go_wp2
          exact bodyPost_ret (v := .tuple #[.agg #[.bool rs.1.1, .slice A9 rs.1.2.length c9], .int .i64 rs.2]) (by simp [results, Tryz.results105, go_sem, r0, r1]) rfl (wres_store S9.out ⟨r0, r1⟩ X9.out.b (Nat.le_refl _) _ _)

set_option maxRecDepth 100000 in
set_option maxHeartbeats 4000000 in
theorem rparse_negbad (b : UInt8) (r : List UInt8) (w : World) (hlen : r.length ≤ 2999) (hd : digB (b :: r) = false) (hb : ((b.toNat : Int) == 48) = false) :
    Calls Tryz.prog 105 #[.string ⟨(45 :: b :: r).toArray⟩] w (WRes ((false, []), 12) w) := by
  have Hnd := Lib.hid hd
  have h45 : (45 : UInt8).toNat = 45 := rfl
  have hget : (ByteArray.mk (45 :: b :: r).toArray)[0]'(by simp [ByteArray.size]) = 45 := rfl
  have hget2 : (ByteArray.mk (b :: r).toArray)[0]'(by simp [ByteArray.size]) = b := rfl
  have hsz : (ByteArray.mk (45 :: b :: r).toArray).size = r.length + 2 := by simp [ByteArray.size]
  have hsz2 : (ByteArray.mk (b :: r).toArray).size = r.length + 1 := by simp [ByteArray.size]
  have hext : (ByteArray.mk (45 :: b :: r).toArray).extract 1 (r.length + 2) = ⟨(b :: r).toArray⟩ := by
    apply ByteArray.ext; simp [ByteArray.data_extract]
  have hz1 : ((r.length : Int) + 1 == 0) = false := by simp; omega
  clear hd
  go_enter Tryz.func105, Tryz.ntmps105
  go_wp2
  go_loop [5] (fun s5 => ∃ k : Nat, k ≤ r.length + 1 ∧ s5 = .int .i64 k ∧ Dig ((b :: r).take k)) (fun s5 => r.length + 1 - (intOf s5).toNat)
  case atStart => exact ⟨0, by omega, rfl, dig_nil⟩
  case round =>
    obtain ⟨k, hk, rfl, hdk⟩ := hrel
    have Hdk := Lib.hid hdk
    clear hdk
    by_cases hkl : k < r.length + 1
    · have hgk : (ByteArray.mk (b :: r).toArray)[k]'(by rw [hsz2]; exact hkl) = (b :: r)[k]'(by simp; exact hkl) := rfl
      have Htk : Hid ((b :: r).take (k + 1) = (b :: r).take k ++ [(b :: r)[k]'(by simp; exact hkl)]) := (List.take_append_getElem (by simp; exact hkl)).symm
      generalize (b :: r)[k]'(by simp; exact hkl) = x at *
      by_cases hx1 : x.toNat < 48
      · have dx1 : decide ((x.toNat : Int) < 48) = true := decide_eq_true (by omega)
        go_wp2
        exact bodyPost_ret (v := .tuple #[.agg #[.bool false, .slice none 0 0], .int .i64 12]) (by simp [results, Tryz.results105, go_sem]) rfl ⟨none, 0, rfl, Sl.nil _ _ _, blw1 _ _⟩
      · have dx1 : decide ((x.toNat : Int) < 48) = false := decide_eq_false (by omega)
        by_cases hx2 : 57 < x.toNat
        · have dx2 : decide ((57 : Int) < (x.toNat : Int)) = true := decide_eq_true (by omega)
          go_wp2
          exact bodyPost_ret (v := .tuple #[.agg #[.bool false, .slice none 0 0], .int .i64 12]) (by simp [results, Tryz.results105, go_sem]) rfl ⟨none, 0, rfl, Sl.nil _ _ _, blw1 _ _⟩
        · have dx2 : decide ((57 : Int) < (x.toNat : Int)) = false := decide_eq_false (by omega)
          go_wp2
          go_round
          case rel => exact ⟨k + 1, by omega, by go_num, by rw [Htk.out]; exact dig_append Hdk.out (fun c hc => by rw [List.mem_singleton] at hc; subst hc; omega)⟩
          case measure => simp [intOf]; omega
    · have h1 := Hdk.out
      rw [List.take_of_length_le (by simp; omega)] at h1
      exact absurd (digB_iff.2 h1) (by rw [Hnd.out]; simp)

set_option maxRecDepth 100000 in
set_option maxHeartbeats 4000000 in
theorem rparse_pos (b : UInt8) (r : List UInt8) (w : World) (hlen : r.length ≤ 2999) (hd : digB (b :: r) = true) (hc : ((b.toNat : Int) == 45) = false) (hb : ((b.toNat : Int) == 48) = false ∨ r = []) :
    Calls Tryz.prog 105 #[.string ⟨(b :: r).toArray⟩] w (WRes (outN false (dv (b :: r))) w) := by
  have Hd := Lib.hid (digB_iff.1 hd)
  have hget2 : (ByteArray.mk (b :: r).toArray)[0]'(by simp [ByteArray.size]) = b := rfl
  have hsz2 : (ByteArray.mk (b :: r).toArray).size = r.length + 1 := by simp [ByteArray.size]
  have hz1 : ((r.length : Int) + 1 == 0) = false := by simp; omega
  clear hd
  by_cases hb48 : b.toNat = 48
  · have hl1 : r.length = 0 := by
      rcases hb with hb | hb
      · simp at hb; omega
      · rw [hb]; rfl
    have Hl1 := Lib.hid hl1
    have hbz : ((b.toNat : Int) == 48) = true := by simp; omega
    have d1 : decide ((1 : Int) < (r.length : Int) + 1) = false := decide_eq_false (by omega)
    have d2 : decide ((0 : Int) < (r.length : Int)) = false := decide_eq_false (by omega)
    have d3 : decide (0 < r.length) = false := decide_eq_false (by omega)
    clear hl1 hb hb48
    go_enter Tryz.func105, Tryz.ntmps105
    go_wp2
    go_loop [5] (fun s5 => ∃ k : Nat, k ≤ r.length + 1 ∧ s5 = .int .i64 k) (fun s5 => r.length + 1 - (intOf s5).toNat)
    case atStart => exact ⟨0, by omega, rfl⟩
    case round =>
      obtain ⟨k, hk, rfl⟩ := hrel
      by_cases hkl : k < r.length + 1
      · have hdk := Hd.out ((b :: r)[k]'(by simp; exact hkl)) (List.getElem_mem _)
        have hgk : (ByteArray.mk (b :: r).toArray)[k]'(by rw [hsz2]; exact hkl) = (b :: r)[k]'(by simp; exact hkl) := rfl
        generalize (b :: r)[k]'(by simp; exact hkl) = x at *
        have dx1 : decide ((x.toNat : Int) < 48) = false := decide_eq_false (by omega)
        have dx2 : decide ((57 : Int) < (x.toNat : Int)) = false := decide_eq_false (by omega)
        go_wp2
        go_round
        case rel => exact ⟨k + 1, by omega, by go_num⟩
        case measure => simp [intOf]; omega
      · obtain rfl : k = r.length + 1 := by omega
        go_wp2
        generalize hW0 : w.alloc (.cells #[.bool false, .slice none 0 0] 24) = W0 at *
        have X00 : Hid (PB w W0) := hW0 ▸ pb_fresh w _
        clear hW0
        go_loopg [6, 7] (r.length + 1) (fun gf s6 s7 wx => ∃ (pos : Nat) (A6 : Option Addr) (c6 : Nat), pos ≤ r.length + 1 ∧ gf + pos = r.length + 1 ∧ s7 = .int .i64 pos ∧ s6 = .slice A6 (limbs (dv ((b :: r).take pos))).length c6 ∧ Sl wx A6 (limbs (dv ((b :: r).take pos))) c6 ∧ PB w wx)
        case atStart => exact ⟨0, none, 0, by omega, by omega, rfl, rfl, Sl.nil _ _ _, X00.out⟩
        case round =>
          clear X00
          obtain ⟨pos, A6, c6, hpos, hgf, rfl, rfl, s6, x0⟩ := hrel
          have S6 := Lib.hid s6
          have X0 := Lib.hid x0
          clear s6 x0
          have hltw : w.heap.size < wr.heap.size := X0.out.lt
          by_cases hps : pos < r.length + 1
          · have hgp : (ByteArray.mk (b :: r).toArray)[pos]'(by rw [hsz2]; exact hps) = (b :: r)[pos]'(by simp; exact hps) := rfl
            have hdg := Hd.out ((b :: r)[pos]'(by simp; exact hps)) (List.getElem_mem _)
            have Hdt2 : Hid (dv ((b :: r).take (pos + 1)) = 10 * dv ((b :: r).take pos) + (((b :: r)[pos]'(by simp; exact hps)).toNat - 48)) := by
              unfold Hid
              rw [← List.take_append_getElem (by simp; exact hps), dv_snoc]
            have hll : (limbs (dv ((b :: r).take pos))).length ≤ 400 := dv_limbs (fun c hc => Hd.out c (List.mem_of_mem_take hc)) (by rw [List.length_take]; simp; omega)
            have hll2 : (limbs (dv ((b :: r).take (pos + 1)))).length ≤ 400 := dv_limbs (fun c hc => Hd.out c (List.mem_of_mem_take hc)) (by rw [List.length_take]; simp; omega)
            have Hv := Lib.hid (val_limbs (dv ((b :: r).take pos)))
            generalize hvq : dv ((b :: r).take (pos + 1)) = vq at *
            have Hvq := Lib.hid hvq
            clear hvq
            generalize (b :: r)[pos]'(by simp; exact hps) = bb at *
            generalize limbs (dv ((b :: r).take pos)) = lc at *
            obtain ⟨x, hx⟩ : ∃ x, x = bb.toNat - 48 := ⟨_, rfl⟩
            have hxz : (bb.toNat : Int) - 48 = (x : Int) := by omega
            have hx9 : x ≤ 9 := by omega
            rw [← hx] at Hdt2
            have V7of : Hid (∀ v, v = val lc * val [10] → v = 10 * dv ((b :: r).take pos)) := by intro v h; rw [h, Hv.out]; simp [val]; omega
            have V8of : Hid (∀ v7 v, v7 = 10 * dv ((b :: r).take pos) → v = v7 + val [x] → v = vq) := by intro v7 v h7 h; rw [h, h7, Hdt2.out]; simp [val]
            clear hx
            have hwx8 : IntKind.u8.wrap (x : Int) = (x : Int) := by rw [IntKind.wrap_u8]; omega
            have hwx32 : IntKind.u32.wrap (x : Int) = (x : Int) := by rw [IntKind.wrap_u32]; omega
            have Sdb : Hid (Sl (((wr.alloc (.cells #[.int .u32 10] 50)).alloc (.cells #[.int .u32 (x : Nat)] 50)).drew) (some ⟨wr.heap.size + 1, 0, none⟩) [x] 1) := ⟨(Rd.one' (by simp) _ _).drew, lim_one (by omega), Nat.le_refl _, by simp⟩
            have Sdc : Hid (Sl (((wr.alloc (.cells #[.int .u32 (x : Nat)] 50)).alloc (.cells #[.int .u32 10] 50)).drew) (some ⟨wr.heap.size, 0, none⟩) [x] 1) := ⟨((Rd.one' rfl _ _).alloc _).drew, lim_one (by omega), Nat.le_refl _, by simp⟩
            have Ta : Hid (Calls Tryz.prog 80 #[.slice A6 lc.length c6, .slice (some ⟨wr.heap.size, 0, none⟩) 1 1] ((wr.alloc (.cells #[.int .u32 10] 50)).drew) (VRes (val lc * val [10]) (lc.length + 1) ((wr.alloc (.cells #[.int .u32 10] 50)).drew))) := rtimes_any A6 _ lc [10] c6 1 _ (S6.out.alloc _).drew ⟨(Rd.one' rfl _ _).drew, lim_one (by omega), Nat.le_refl _, by simp⟩ (by omega) (by simp)
            have Tb : Hid (Calls Tryz.prog 80 #[.slice A6 lc.length c6, .slice (some ⟨wr.heap.size, 0, none⟩) 1 1] (((wr.alloc (.cells #[.int .u32 10] 50)).alloc (.cells #[.int .u32 (x : Nat)] 50)).drew) (VRes (val lc * val [10]) (lc.length + 1) (((wr.alloc (.cells #[.int .u32 10] 50)).alloc (.cells #[.int .u32 (x : Nat)] 50)).drew))) := rtimes_any A6 _ lc [10] c6 1 _ ((S6.out.alloc _).alloc _).drew ⟨((Rd.one' rfl _ _).alloc _).drew, lim_one (by omega), Nat.le_refl _, by simp⟩ (by omega) (by simp)
            have Tc : Hid (Calls Tryz.prog 80 #[.slice A6 lc.length c6, .slice (some ⟨wr.heap.size + 1, 0, none⟩) 1 1] (((wr.alloc (.cells #[.int .u32 (x : Nat)] 50)).alloc (.cells #[.int .u32 10] 50)).drew) (VRes (val lc * val [10]) (lc.length + 1) (((wr.alloc (.cells #[.int .u32 (x : Nat)] 50)).alloc (.cells #[.int .u32 10] 50)).drew))) := rtimes_any A6 _ lc [10] c6 1 _ ((S6.out.alloc _).alloc _).drew ⟨(Rd.one' (by simp) _ _).drew, lim_one (by omega), Nat.le_refl _, by simp⟩ (by omega) (by simp)
            have Pa : Hid (∀ (v1 : World) (A7 : Option Addr) (x7 : List Nat) (c7 : Nat), Sl v1 A7 x7 c7 → x7.length ≤ 401 → Calls Tryz.prog 123 #[.slice A7 x7.length c7, .slice (some ⟨v1.heap.size, 0, none⟩) 1 1] (v1.alloc (.cells #[.int .u32 (x : Nat)] 50)) (VRes (val x7 + val [x]) (max x7.length 1 + 1) (v1.alloc (.cells #[.int .u32 (x : Nat)] 50)))) := fun v1 A7 x7 c7 h1 h2 => rplus_any A7 _ x7 [x] c7 1 _ (h1.alloc _) ⟨Rd.one _ _ _, lim_one (by omega), Nat.le_refl _, by simp⟩ (by omega) (by simp)
            have Pb : Hid (∀ (v1 : World) (g : Nat) (A7 : Option Addr) (x7 : List Nat) (c7 : Nat), Sl v1 A7 x7 c7 → x7.length ≤ 401 → Sl v1 (some ⟨g, 0, none⟩) [x] 1 → Calls Tryz.prog 123 #[.slice A7 x7.length c7, .slice (some ⟨g, 0, none⟩) 1 1] v1 (VRes (val x7 + val [x]) (max x7.length 1 + 1) v1)) := fun v1 g A7 x7 c7 h1 h2 h3 => rplus_any A7 _ x7 [x] c7 1 _ h1 h3 (by omega) (by simp)
            go_wp2_with fail
            go_region_held3 (fun w' => w'.cell? ⟨w.heap.size, 0, none⟩ = some (.bool false) ∧ w'.cell? ⟨w.heap.size, 1, none⟩ = some (.slice none 0 0))
              (first | exact X3.out.r | exact X2.out.r | exact (X1.out.alloc _).r | exact X1.out.r | exact ((X0.out.alloc _).alloc _).drew.r | exact (X0.out.alloc _).drew.r | exact X0.out.drew.r)
              (first
                | ((go_at_call 80; (with_reducible refine Ta.out.mono ?_); rintro e v1 ⟨A7, c7, x7, rfl, hs7, hv7, hn7, hb⟩; have S7 := Lib.hid hs7; have hn7' : x7.length ≤ 401 := (by omega); have V7 : Hid (val x7 = 10 * dv ((b :: r).take pos)) := V7of.out _ hv7; have X1 := Lib.hid ((X0.out.alloc _).drew.keep hb); clear hb hs7 hv7 hn7))
                | ((go_at_call 80; (with_reducible refine Tb.out.mono ?_); rintro e v1 ⟨A7, c7, x7, rfl, hs7, hv7, hn7, hb⟩; have S7 := Lib.hid hs7; have hn7' : x7.length ≤ 401 := (by omega); have V7 : Hid (val x7 = 10 * dv ((b :: r).take pos)) := V7of.out _ hv7; have X1 := Lib.hid (((X0.out.alloc _).alloc _).drew.keep hb); have Sd := Lib.hid (Sl.below Sdb.out hb); clear hb hs7 hv7 hn7))
                | ((go_at_call 80; (with_reducible refine Tc.out.mono ?_); rintro e v1 ⟨A7, c7, x7, rfl, hs7, hv7, hn7, hb⟩; have S7 := Lib.hid hs7; have hn7' : x7.length ≤ 401 := (by omega); have V7 : Hid (val x7 = 10 * dv ((b :: r).take pos)) := V7of.out _ hv7; have X1 := Lib.hid (((X0.out.alloc _).alloc _).drew.keep hb); have Sd := Lib.hid (Sl.below Sdc.out hb); clear hb hs7 hv7 hn7))
                | ((go_at_call 123; (with_reducible refine (Pa.out v1 A7 x7 c7 S7.out hn7').mono ?_); rintro e v2 ⟨A8, c8, x8, rfl, hs8, hv8, hn8, hb⟩; have S8 := Lib.hid hs8; have V8 : Hid (val x8 = vq) := V8of.out _ _ V7.out hv8; have X2 := Lib.hid ((X1.out.alloc _).keep hb); clear hb hs8 hv8 hn8))
                | ((go_at_call 123; (with_reducible refine (Pb.out v1 (wr.heap.size + 1) A7 x7 c7 S7.out hn7' Sd.out).mono ?_); rintro e v2 ⟨A8, c8, x8, rfl, hs8, hv8, hn8, hb⟩; have S8 := Lib.hid hs8; have V8 : Hid (val x8 = vq) := V8of.out _ _ V7.out hv8; have X2 := Lib.hid (X1.out.keep hb); clear hb hs8 hv8 hn8))
                | ((go_at_call 123; (with_reducible refine (Pb.out v1 (wr.heap.size) A7 x7 c7 S7.out hn7' Sd.out).mono ?_); rintro e v2 ⟨A8, c8, x8, rfl, hs8, hv8, hn8, hb⟩; have S8 := Lib.hid hs8; have V8 : Hid (val x8 = vq) := V8of.out _ _ V7.out hv8; have X2 := Lib.hid (X1.out.keep hb); clear hb hs8 hv8 hn8))
                | ((go_at_call 122; refine (rtrim_any A8 x8 c8 _ S8.out).mono ?_; rw [V8.out]; rintro e v3 ⟨A9, c9, rfl, hs9, hb⟩; have S9 := Lib.hid hs9; have X3 := Lib.hid (X2.out.keep hb); clear hb hs9)))
            all_goals
              go_wp2
              go_roundg (gk - 1)
              case measure => omega
              case rel => exact ⟨pos + 1, A9, c9, by omega, by omega, by go_num, by rw [Hvq.out], by rw [Hvq.out]; exact S9.out, X3.out⟩
          · obtain rfl : pos = r.length + 1 := by omega
            have Htt : Hid ((b :: r).take (r.length + 1) = b :: r) := List.take_of_length_le (Nat.le_refl _)
            rw [Htt.out] at S6
            rw [Htt.out]
            go_wp2_with fail
            refine (rmade_any false A6 (limbs (dv (b :: r))) c6 _ S6.out).mono ?_
            rw [val_limbs]
            generalize outN false (dv (b :: r)) = rs at *
            rintro e w8 ⟨A9, c9, rfl, hs9, hb⟩
            have S9 := Lib.hid hs9
            have X9 := Lib.hid (X0.out.keep hb)
            obtain ⟨r0, r1⟩ := X9.out.r
            obtain ⟨f0, f1⟩ := X9.out.f
            clear hb hs9
            go_wp2
            exact bodyPost_ret (v := .tuple #[.agg #[.bool rs.1.1, .slice A9 rs.1.2.length c9], .int .i64 rs.2]) (by simp [results, Tryz.results105, go_sem, r0, r1]) rfl (wres_store S9.out ⟨r0, r1⟩ X9.out.b (Nat.le_refl _) _ _)
  · have hbz : ((b.toNat : Int) == 48) = false := by simp; omega
    clear hb hb48
    go_enter Tryz.func105, Tryz.ntmps105
    go_wp2
    go_loop [5] (fun s5 => ∃ k : Nat, k ≤ r.length + 1 ∧ s5 = .int .i64 k) (fun s5 => r.length + 1 - (intOf s5).toNat)
    case atStart => exact ⟨0, by omega, rfl⟩
    case round =>
      obtain ⟨k, hk, rfl⟩ := hrel
      by_cases hkl : k < r.length + 1
      · have hdk := Hd.out ((b :: r)[k]'(by simp; exact hkl)) (List.getElem_mem _)
        have hgk : (ByteArray.mk (b :: r).toArray)[k]'(by rw [hsz2]; exact hkl) = (b :: r)[k]'(by simp; exact hkl) := rfl
        generalize (b :: r)[k]'(by simp; exact hkl) = x at *
        have dx1 : decide ((x.toNat : Int) < 48) = false := decide_eq_false (by omega)
        have dx2 : decide ((57 : Int) < (x.toNat : Int)) = false := decide_eq_false (by omega)
        go_wp2
        go_round
        case rel => exact ⟨k + 1, by omega, by go_num⟩
        case measure => simp [intOf]; omega
      · obtain rfl : k = r.length + 1 := by omega
        go_wp2
        generalize hW0 : w.alloc (.cells #[.bool false, .slice none 0 0] 24) = W0 at *
        have X00 : Hid (PB w W0) := hW0 ▸ pb_fresh w _
        clear hW0
        go_loopg [6, 7] (r.length + 1) (fun gf s6 s7 wx => ∃ (pos : Nat) (A6 : Option Addr) (c6 : Nat), pos ≤ r.length + 1 ∧ gf + pos = r.length + 1 ∧ s7 = .int .i64 pos ∧ s6 = .slice A6 (limbs (dv ((b :: r).take pos))).length c6 ∧ Sl wx A6 (limbs (dv ((b :: r).take pos))) c6 ∧ PB w wx)
        case atStart => exact ⟨0, none, 0, by omega, by omega, rfl, rfl, Sl.nil _ _ _, X00.out⟩
        case round =>
          clear X00
          obtain ⟨pos, A6, c6, hpos, hgf, rfl, rfl, s6, x0⟩ := hrel
          have S6 := Lib.hid s6
          have X0 := Lib.hid x0
          clear s6 x0
          have hltw : w.heap.size < wr.heap.size := X0.out.lt
          by_cases hps : pos < r.length + 1
          · have hgp : (ByteArray.mk (b :: r).toArray)[pos]'(by rw [hsz2]; exact hps) = (b :: r)[pos]'(by simp; exact hps) := rfl
            have hdg := Hd.out ((b :: r)[pos]'(by simp; exact hps)) (List.getElem_mem _)
            have Hdt2 : Hid (dv ((b :: r).take (pos + 1)) = 10 * dv ((b :: r).take pos) + (((b :: r)[pos]'(by simp; exact hps)).toNat - 48)) := by
              unfold Hid
              rw [← List.take_append_getElem (by simp; exact hps), dv_snoc]
            have hll : (limbs (dv ((b :: r).take pos))).length ≤ 400 := dv_limbs (fun c hc => Hd.out c (List.mem_of_mem_take hc)) (by rw [List.length_take]; simp; omega)
            have hll2 : (limbs (dv ((b :: r).take (pos + 1)))).length ≤ 400 := dv_limbs (fun c hc => Hd.out c (List.mem_of_mem_take hc)) (by rw [List.length_take]; simp; omega)
            have Hv := Lib.hid (val_limbs (dv ((b :: r).take pos)))
            generalize hvq : dv ((b :: r).take (pos + 1)) = vq at *
            have Hvq := Lib.hid hvq
            clear hvq
            generalize (b :: r)[pos]'(by simp; exact hps) = bb at *
            generalize limbs (dv ((b :: r).take pos)) = lc at *
            obtain ⟨x, hx⟩ : ∃ x, x = bb.toNat - 48 := ⟨_, rfl⟩
            have hxz : (bb.toNat : Int) - 48 = (x : Int) := by omega
            have hx9 : x ≤ 9 := by omega
            rw [← hx] at Hdt2
            have V7of : Hid (∀ v, v = val lc * val [10] → v = 10 * dv ((b :: r).take pos)) := by intro v h; rw [h, Hv.out]; simp [val]; omega
            have V8of : Hid (∀ v7 v, v7 = 10 * dv ((b :: r).take pos) → v = v7 + val [x] → v = vq) := by intro v7 v h7 h; rw [h, h7, Hdt2.out]; simp [val]
            clear hx
            have hwx8 : IntKind.u8.wrap (x : Int) = (x : Int) := by rw [IntKind.wrap_u8]; omega
            have hwx32 : IntKind.u32.wrap (x : Int) = (x : Int) := by rw [IntKind.wrap_u32]; omega
            have Sdb : Hid (Sl (((wr.alloc (.cells #[.int .u32 10] 50)).alloc (.cells #[.int .u32 (x : Nat)] 50)).drew) (some ⟨wr.heap.size + 1, 0, none⟩) [x] 1) := ⟨(Rd.one' (by simp) _ _).drew, lim_one (by omega), Nat.le_refl _, by simp⟩
            have Sdc : Hid (Sl (((wr.alloc (.cells #[.int .u32 (x : Nat)] 50)).alloc (.cells #[.int .u32 10] 50)).drew) (some ⟨wr.heap.size, 0, none⟩) [x] 1) := ⟨((Rd.one' rfl _ _).alloc _).drew, lim_one (by omega), Nat.le_refl _, by simp⟩
            have Ta : Hid (Calls Tryz.prog 80 #[.slice A6 lc.length c6, .slice (some ⟨wr.heap.size, 0, none⟩) 1 1] ((wr.alloc (.cells #[.int .u32 10] 50)).drew) (VRes (val lc * val [10]) (lc.length + 1) ((wr.alloc (.cells #[.int .u32 10] 50)).drew))) := rtimes_any A6 _ lc [10] c6 1 _ (S6.out.alloc _).drew ⟨(Rd.one' rfl _ _).drew, lim_one (by omega), Nat.le_refl _, by simp⟩ (by omega) (by simp)
            have Tb : Hid (Calls Tryz.prog 80 #[.slice A6 lc.length c6, .slice (some ⟨wr.heap.size, 0, none⟩) 1 1] (((wr.alloc (.cells #[.int .u32 10] 50)).alloc (.cells #[.int .u32 (x : Nat)] 50)).drew) (VRes (val lc * val [10]) (lc.length + 1) (((wr.alloc (.cells #[.int .u32 10] 50)).alloc (.cells #[.int .u32 (x : Nat)] 50)).drew))) := rtimes_any A6 _ lc [10] c6 1 _ ((S6.out.alloc _).alloc _).drew ⟨((Rd.one' rfl _ _).alloc _).drew, lim_one (by omega), Nat.le_refl _, by simp⟩ (by omega) (by simp)
            have Tc : Hid (Calls Tryz.prog 80 #[.slice A6 lc.length c6, .slice (some ⟨wr.heap.size + 1, 0, none⟩) 1 1] (((wr.alloc (.cells #[.int .u32 (x : Nat)] 50)).alloc (.cells #[.int .u32 10] 50)).drew) (VRes (val lc * val [10]) (lc.length + 1) (((wr.alloc (.cells #[.int .u32 (x : Nat)] 50)).alloc (.cells #[.int .u32 10] 50)).drew))) := rtimes_any A6 _ lc [10] c6 1 _ ((S6.out.alloc _).alloc _).drew ⟨(Rd.one' (by simp) _ _).drew, lim_one (by omega), Nat.le_refl _, by simp⟩ (by omega) (by simp)
            have Pa : Hid (∀ (v1 : World) (A7 : Option Addr) (x7 : List Nat) (c7 : Nat), Sl v1 A7 x7 c7 → x7.length ≤ 401 → Calls Tryz.prog 123 #[.slice A7 x7.length c7, .slice (some ⟨v1.heap.size, 0, none⟩) 1 1] (v1.alloc (.cells #[.int .u32 (x : Nat)] 50)) (VRes (val x7 + val [x]) (max x7.length 1 + 1) (v1.alloc (.cells #[.int .u32 (x : Nat)] 50)))) := fun v1 A7 x7 c7 h1 h2 => rplus_any A7 _ x7 [x] c7 1 _ (h1.alloc _) ⟨Rd.one _ _ _, lim_one (by omega), Nat.le_refl _, by simp⟩ (by omega) (by simp)
            have Pb : Hid (∀ (v1 : World) (g : Nat) (A7 : Option Addr) (x7 : List Nat) (c7 : Nat), Sl v1 A7 x7 c7 → x7.length ≤ 401 → Sl v1 (some ⟨g, 0, none⟩) [x] 1 → Calls Tryz.prog 123 #[.slice A7 x7.length c7, .slice (some ⟨g, 0, none⟩) 1 1] v1 (VRes (val x7 + val [x]) (max x7.length 1 + 1) v1)) := fun v1 g A7 x7 c7 h1 h2 h3 => rplus_any A7 _ x7 [x] c7 1 _ h1 h3 (by omega) (by simp)
            go_wp2_with fail
            go_region_held3 (fun w' => w'.cell? ⟨w.heap.size, 0, none⟩ = some (.bool false) ∧ w'.cell? ⟨w.heap.size, 1, none⟩ = some (.slice none 0 0))
              (first | exact X3.out.r | exact X2.out.r | exact (X1.out.alloc _).r | exact X1.out.r | exact ((X0.out.alloc _).alloc _).drew.r | exact (X0.out.alloc _).drew.r | exact X0.out.drew.r)
              (first
                | ((go_at_call 80; (with_reducible refine Ta.out.mono ?_); rintro e v1 ⟨A7, c7, x7, rfl, hs7, hv7, hn7, hb⟩; have S7 := Lib.hid hs7; have hn7' : x7.length ≤ 401 := (by omega); have V7 : Hid (val x7 = 10 * dv ((b :: r).take pos)) := V7of.out _ hv7; have X1 := Lib.hid ((X0.out.alloc _).drew.keep hb); clear hb hs7 hv7 hn7))
                | ((go_at_call 80; (with_reducible refine Tb.out.mono ?_); rintro e v1 ⟨A7, c7, x7, rfl, hs7, hv7, hn7, hb⟩; have S7 := Lib.hid hs7; have hn7' : x7.length ≤ 401 := (by omega); have V7 : Hid (val x7 = 10 * dv ((b :: r).take pos)) := V7of.out _ hv7; have X1 := Lib.hid (((X0.out.alloc _).alloc _).drew.keep hb); have Sd := Lib.hid (Sl.below Sdb.out hb); clear hb hs7 hv7 hn7))
                | ((go_at_call 80; (with_reducible refine Tc.out.mono ?_); rintro e v1 ⟨A7, c7, x7, rfl, hs7, hv7, hn7, hb⟩; have S7 := Lib.hid hs7; have hn7' : x7.length ≤ 401 := (by omega); have V7 : Hid (val x7 = 10 * dv ((b :: r).take pos)) := V7of.out _ hv7; have X1 := Lib.hid (((X0.out.alloc _).alloc _).drew.keep hb); have Sd := Lib.hid (Sl.below Sdc.out hb); clear hb hs7 hv7 hn7))
                | ((go_at_call 123; (with_reducible refine (Pa.out v1 A7 x7 c7 S7.out hn7').mono ?_); rintro e v2 ⟨A8, c8, x8, rfl, hs8, hv8, hn8, hb⟩; have S8 := Lib.hid hs8; have V8 : Hid (val x8 = vq) := V8of.out _ _ V7.out hv8; have X2 := Lib.hid ((X1.out.alloc _).keep hb); clear hb hs8 hv8 hn8))
                | ((go_at_call 123; (with_reducible refine (Pb.out v1 (wr.heap.size + 1) A7 x7 c7 S7.out hn7' Sd.out).mono ?_); rintro e v2 ⟨A8, c8, x8, rfl, hs8, hv8, hn8, hb⟩; have S8 := Lib.hid hs8; have V8 : Hid (val x8 = vq) := V8of.out _ _ V7.out hv8; have X2 := Lib.hid (X1.out.keep hb); clear hb hs8 hv8 hn8))
                | ((go_at_call 123; (with_reducible refine (Pb.out v1 (wr.heap.size) A7 x7 c7 S7.out hn7' Sd.out).mono ?_); rintro e v2 ⟨A8, c8, x8, rfl, hs8, hv8, hn8, hb⟩; have S8 := Lib.hid hs8; have V8 : Hid (val x8 = vq) := V8of.out _ _ V7.out hv8; have X2 := Lib.hid (X1.out.keep hb); clear hb hs8 hv8 hn8))
                | ((go_at_call 122; refine (rtrim_any A8 x8 c8 _ S8.out).mono ?_; rw [V8.out]; rintro e v3 ⟨A9, c9, rfl, hs9, hb⟩; have S9 := Lib.hid hs9; have X3 := Lib.hid (X2.out.keep hb); clear hb hs9)))
            all_goals
              go_wp2
              go_roundg (gk - 1)
              case measure => omega
              case rel => exact ⟨pos + 1, A9, c9, by omega, by omega, by go_num, by rw [Hvq.out], by rw [Hvq.out]; exact S9.out, X3.out⟩
          · obtain rfl : pos = r.length + 1 := by omega
            have Htt : Hid ((b :: r).take (r.length + 1) = b :: r) := List.take_of_length_le (Nat.le_refl _)
            rw [Htt.out] at S6
            rw [Htt.out]
            go_wp2_with fail
            refine (rmade_any false A6 (limbs (dv (b :: r))) c6 _ S6.out).mono ?_
            rw [val_limbs]
            generalize outN false (dv (b :: r)) = rs at *
            rintro e w8 ⟨A9, c9, rfl, hs9, hb⟩
            have S9 := Lib.hid hs9
            have X9 := Lib.hid (X0.out.keep hb)
            obtain ⟨r0, r1⟩ := X9.out.r
            obtain ⟨f0, f1⟩ := X9.out.f
            clear hb hs9
            go_wp2
            exact bodyPost_ret (v := .tuple #[.agg #[.bool rs.1.1, .slice A9 rs.1.2.length c9], .int .i64 rs.2]) (by simp [results, Tryz.results105, go_sem, r0, r1]) rfl (wres_store S9.out ⟨r0, r1⟩ X9.out.b (Nat.le_refl _) _ _)

set_option maxRecDepth 100000 in
set_option maxHeartbeats 4000000 in
theorem rparse_posbad (b : UInt8) (r : List UInt8) (w : World) (hlen : r.length ≤ 2999) (hd : digB (b :: r) = false) (hc : ((b.toNat : Int) == 45) = false) (hb : ((b.toNat : Int) == 48) = false ∨ r = []) :
    Calls Tryz.prog 105 #[.string ⟨(b :: r).toArray⟩] w (WRes ((false, []), 12) w) := by
  have Hnd := Lib.hid hd
  have hget2 : (ByteArray.mk (b :: r).toArray)[0]'(by simp [ByteArray.size]) = b := rfl
  have hsz2 : (ByteArray.mk (b :: r).toArray).size = r.length + 1 := by simp [ByteArray.size]
  have hz1 : ((r.length : Int) + 1 == 0) = false := by simp; omega
  clear hd
  by_cases hb48 : b.toNat = 48
  · have hl1 : r.length = 0 := by
      rcases hb with hb | hb
      · simp at hb; omega
      · rw [hb]; rfl
    have Hl1 := Lib.hid hl1
    have hbz : ((b.toNat : Int) == 48) = true := by simp; omega
    have d1 : decide ((1 : Int) < (r.length : Int) + 1) = false := decide_eq_false (by omega)
    have d2 : decide ((0 : Int) < (r.length : Int)) = false := decide_eq_false (by omega)
    have d3 : decide (0 < r.length) = false := decide_eq_false (by omega)
    clear hl1 hb hb48
    go_enter Tryz.func105, Tryz.ntmps105
    go_wp2
    go_loop [5] (fun s5 => ∃ k : Nat, k ≤ r.length + 1 ∧ s5 = .int .i64 k ∧ Dig ((b :: r).take k)) (fun s5 => r.length + 1 - (intOf s5).toNat)
    case atStart => exact ⟨0, by omega, rfl, dig_nil⟩
    case round =>
      obtain ⟨k, hk, rfl, hdk⟩ := hrel
      have Hdk := Lib.hid hdk
      clear hdk
      by_cases hkl : k < r.length + 1
      · have hgk : (ByteArray.mk (b :: r).toArray)[k]'(by rw [hsz2]; exact hkl) = (b :: r)[k]'(by simp; exact hkl) := rfl
        have Htk : Hid ((b :: r).take (k + 1) = (b :: r).take k ++ [(b :: r)[k]'(by simp; exact hkl)]) := (List.take_append_getElem (by simp; exact hkl)).symm
        generalize (b :: r)[k]'(by simp; exact hkl) = x at *
        by_cases hx1 : x.toNat < 48
        · have dx1 : decide ((x.toNat : Int) < 48) = true := decide_eq_true (by omega)
          go_wp2
          exact bodyPost_ret (v := .tuple #[.agg #[.bool false, .slice none 0 0], .int .i64 12]) (by simp [results, Tryz.results105, go_sem]) rfl ⟨none, 0, rfl, Sl.nil _ _ _, blw1 _ _⟩
        · have dx1 : decide ((x.toNat : Int) < 48) = false := decide_eq_false (by omega)
          by_cases hx2 : 57 < x.toNat
          · have dx2 : decide ((57 : Int) < (x.toNat : Int)) = true := decide_eq_true (by omega)
            go_wp2
            exact bodyPost_ret (v := .tuple #[.agg #[.bool false, .slice none 0 0], .int .i64 12]) (by simp [results, Tryz.results105, go_sem]) rfl ⟨none, 0, rfl, Sl.nil _ _ _, blw1 _ _⟩
          · have dx2 : decide ((57 : Int) < (x.toNat : Int)) = false := decide_eq_false (by omega)
            go_wp2
            go_round
            case rel => exact ⟨k + 1, by omega, by go_num, by rw [Htk.out]; exact dig_append Hdk.out (fun c hc => by rw [List.mem_singleton] at hc; subst hc; omega)⟩
            case measure => simp [intOf]; omega
      · have h1 := Hdk.out
        rw [List.take_of_length_le (by simp; omega)] at h1
        exact absurd (digB_iff.2 h1) (by rw [Hnd.out]; simp)
  · have hbz : ((b.toNat : Int) == 48) = false := by simp; omega
    clear hb hb48
    go_enter Tryz.func105, Tryz.ntmps105
    go_wp2
    go_loop [5] (fun s5 => ∃ k : Nat, k ≤ r.length + 1 ∧ s5 = .int .i64 k ∧ Dig ((b :: r).take k)) (fun s5 => r.length + 1 - (intOf s5).toNat)
    case atStart => exact ⟨0, by omega, rfl, dig_nil⟩
    case round =>
      obtain ⟨k, hk, rfl, hdk⟩ := hrel
      have Hdk := Lib.hid hdk
      clear hdk
      by_cases hkl : k < r.length + 1
      · have hgk : (ByteArray.mk (b :: r).toArray)[k]'(by rw [hsz2]; exact hkl) = (b :: r)[k]'(by simp; exact hkl) := rfl
        have Htk : Hid ((b :: r).take (k + 1) = (b :: r).take k ++ [(b :: r)[k]'(by simp; exact hkl)]) := (List.take_append_getElem (by simp; exact hkl)).symm
        generalize (b :: r)[k]'(by simp; exact hkl) = x at *
        by_cases hx1 : x.toNat < 48
        · have dx1 : decide ((x.toNat : Int) < 48) = true := decide_eq_true (by omega)
          go_wp2
          exact bodyPost_ret (v := .tuple #[.agg #[.bool false, .slice none 0 0], .int .i64 12]) (by simp [results, Tryz.results105, go_sem]) rfl ⟨none, 0, rfl, Sl.nil _ _ _, blw1 _ _⟩
        · have dx1 : decide ((x.toNat : Int) < 48) = false := decide_eq_false (by omega)
          by_cases hx2 : 57 < x.toNat
          · have dx2 : decide ((57 : Int) < (x.toNat : Int)) = true := decide_eq_true (by omega)
            go_wp2
            exact bodyPost_ret (v := .tuple #[.agg #[.bool false, .slice none 0 0], .int .i64 12]) (by simp [results, Tryz.results105, go_sem]) rfl ⟨none, 0, rfl, Sl.nil _ _ _, blw1 _ _⟩
          · have dx2 : decide ((57 : Int) < (x.toNat : Int)) = false := decide_eq_false (by omega)
            go_wp2
            go_round
            case rel => exact ⟨k + 1, by omega, by go_num, by rw [Htk.out]; exact dig_append Hdk.out (fun c hc => by rw [List.mem_singleton] at hc; subst hc; omega)⟩
            case measure => simp [intOf]; omega
      · have h1 := Hdk.out
        rw [List.take_of_length_le (by simp; omega)] at h1
        exact absurd (digB_iff.2 h1) (by rw [Hnd.out]; simp)

set_option maxRecDepth 100000 in
set_option maxHeartbeats 4000000 in
theorem rparse_nil (w : World) :
    Calls Tryz.prog 105 #[.string ⟨([] : List UInt8).toArray⟩] w (WRes ((false, []), 12) w) := by
  go_enter Tryz.func105, Tryz.ntmps105
  go_wp2
  exact bodyPost_ret (v := .tuple #[.agg #[.bool false, .slice none 0 0], .int .i64 12]) (by simp [results, Tryz.results105, go_sem]) rfl ⟨none, 0, rfl, Sl.nil _ _ _, blw1 _ _⟩

set_option maxRecDepth 100000 in
set_option maxHeartbeats 4000000 in
theorem rparse_minus (w : World) :
    Calls Tryz.prog 105 #[.string ⟨([45] : List UInt8).toArray⟩] w (WRes ((false, []), 12) w) := by
  have h45 : (45 : UInt8).toNat = 45 := rfl
  have hget : (ByteArray.mk #[45])[0]'(by decide) = 45 := rfl
  go_enter Tryz.func105, Tryz.ntmps105
  go_wp2
  exact bodyPost_ret (v := .tuple #[.agg #[.bool false, .slice none 0 0], .int .i64 12]) (by simp [results, Tryz.results105, go_sem]) rfl ⟨none, 0, rfl, Sl.nil _ _ _, blw1 _ _⟩

set_option maxRecDepth 100000 in
set_option maxHeartbeats 4000000 in
theorem rparse_mzero (r : List UInt8) (w : World) (hlen : r.length ≤ 3000) :
    Calls Tryz.prog 105 #[.string ⟨(45 :: 48 :: r).toArray⟩] w (WRes ((false, []), 12) w) := by
  have h45 : (45 : UInt8).toNat = 45 := rfl
  have hget : (ByteArray.mk (45 :: 48 :: r).toArray)[0]'(by simp [ByteArray.size]) = 45 := rfl
  have hget2 : (ByteArray.mk (48 :: r).toArray)[0]'(by simp [ByteArray.size]) = 48 := rfl
  have hsz : (ByteArray.mk (45 :: 48 :: r).toArray).size = r.length + 2 := by simp [ByteArray.size]
  have hsz2 : (ByteArray.mk (48 :: r).toArray).size = r.length + 1 := by simp [ByteArray.size]
  have hext : (ByteArray.mk (45 :: 48 :: r).toArray).extract 1 (r.length + 2) = ⟨(48 :: r).toArray⟩ := by
    apply ByteArray.ext; simp [ByteArray.data_extract]
  have hz1 : ((r.length : Int) + 1 == 0) = false := by simp; omega
  have h48 : (48 : UInt8).toNat = 48 := rfl
  go_enter Tryz.func105, Tryz.ntmps105
  go_wp2
  exact bodyPost_ret (v := .tuple #[.agg #[.bool false, .slice none 0 0], .int .i64 12]) (by simp [results, Tryz.results105, go_sem]) rfl ⟨none, 0, rfl, Sl.nil _ _ _, blw1 _ _⟩

set_option maxRecDepth 100000 in
set_option maxHeartbeats 4000000 in
theorem rparse_zero (r : List UInt8) (w : World) (hlen : r.length ≤ 3000) (h0 : 0 < r.length) :
    Calls Tryz.prog 105 #[.string ⟨(48 :: r).toArray⟩] w (WRes ((false, []), 12) w) := by
  have hget2 : (ByteArray.mk (48 :: r).toArray)[0]'(by simp [ByteArray.size]) = 48 := rfl
  have hsz2 : (ByteArray.mk (48 :: r).toArray).size = r.length + 1 := by simp [ByteArray.size]
  have hz1 : ((r.length : Int) + 1 == 0) = false := by simp; omega
  have h48 : (48 : UInt8).toNat = 48 := rfl
  go_enter Tryz.func105, Tryz.ntmps105
  go_wp2
  exact bodyPost_ret (v := .tuple #[.agg #[.bool false, .slice none 0 0], .int .i64 12]) (by simp [results, Tryz.results105, go_sem]) rfl ⟨none, 0, rfl, Sl.nil _ _ _, blw1 _ _⟩

theorem rparse_any (ss : List UInt8) (w : World) (hlen : ss.length ≤ 3000) :
    Calls Tryz.prog 105 #[.string ⟨ss.toArray⟩] w (WRes (parseS ss) w) := by
  have hgood : ∀ (b : UInt8) (r : List UInt8), (b.toNat = 48 → ss = [48]) → (!((b :: r).head? == some 48) || ss == [48]) = true := fun b r h0 => by
    by_cases hb : b = 48
    · rw [h0 (by rw [hb]; rfl)]; simp
    · have : (some b == some (48 : UInt8)) = false := by simpa using hb
      rw [List.head?_cons, this]; rfl
  rcases ss with _ | ⟨c, ss⟩
  · exact rparse_nil w
  · by_cases hc : c = 45
    · subst hc
      have ht : trimPrefix (45 :: ss) [45] = ss := by simp [trimPrefix, hasPrefix]
      have hp : hasPrefix (45 :: ss) [45] = true := by simp [hasPrefix]
      unfold parseS parOk
      rw [ht, hp]
      rcases ss with _ | ⟨b, r⟩
      · exact rparse_minus w
      · by_cases hb : b.toNat = 48
        · have hb2 : b = 48 := UInt8.toNat_inj.1 hb
          subst hb2
          rw [if_neg (by simp)]
          exact rparse_mzero r w (by simp at hlen; omega)
        · have hbz : ((b.toNat : Int) == 48) = false := by simp; omega
          rw [show (!((b :: r).head? == some 48) || (45 :: b :: r) == [48]) = true from hgood b r (fun h => absurd h hb)]
          cases hd : digB (b :: r) with
          | true => rw [if_pos (by simp)]; exact rparse_neg b r w (by simp at hlen; omega) hd hbz
          | false => rw [if_neg (by simp)]; exact rparse_negbad b r w (by simp at hlen; omega) hd hbz
    · have hc2 : c.toNat ≠ 45 := fun e => hc (UInt8.toNat_inj.1 e)
      have hp : hasPrefix (c :: ss) [45] = false := by
        cases h : hasPrefix (c :: ss) [45] with
        | false => rfl
        | true => exact absurd (by simp [hasPrefix, List.isPrefixOf] at h; first | exact h | exact h.symm) hc
      have ht : trimPrefix (c :: ss) [45] = c :: ss := by unfold trimPrefix; rw [hp]; rfl
      have hcz : ((c.toNat : Int) == 45) = false := by simp; omega
      unfold parseS parOk
      rw [ht, hp]
      by_cases h0 : c.toNat = 48 ∧ ss ≠ []
      · obtain ⟨h1, h2⟩ := h0
        have hb2 : c = 48 := UInt8.toNat_inj.1 h1
        subst hb2
        rw [if_neg (by simp [h2])]
        exact rparse_zero ss w (by simp at hlen; omega) (by rcases ss with _ | ⟨x, y⟩; exact absurd rfl h2; simp)
      · have hbz : ((c.toNat : Int) == 48) = false ∨ ss = [] := by
          by_cases h1 : c.toNat = 48
          · right
            by_cases h2 : ss = []
            · exact h2
            · exact absurd ⟨h1, h2⟩ h0
          · left; simp; omega
        rw [show (!((c :: ss).head? == some 48) || (c :: ss) == [48]) = true from hgood c ss (fun h => by
          by_cases h2 : ss = []
          · rw [h2, UInt8.toNat_inj.1 (show c.toNat = (48 : UInt8).toNat from h)]
          · exact absurd ⟨h, h2⟩ h0)]
        cases hd : digB (c :: ss) with
        | true => rw [if_pos (by simp)]; exact rparse_pos c ss w (by simp at hlen; omega) hd hcz hbz
        | false => rw [if_neg (by simp)]; exact rparse_posbad c ss w (by simp at hlen; omega) hd hcz hbz

end Go.Proofs.YtmelbahbjdogdaaGreatDoor

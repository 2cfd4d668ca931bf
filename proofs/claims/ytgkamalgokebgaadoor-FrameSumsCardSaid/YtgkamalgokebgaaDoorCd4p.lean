import Derived.Test.YtgkamalgokebgaaDoorCd3
namespace Go.Proofs.YtgkamalgokebgaaDoor
open Go.RowKit Go.Lib Go.Shelf
attribute [local go_sem ↓] Go.wp_at_zero Go.wp_at_succ
theorem suf_end (l : List UInt8) : hasSuffix l [32] = endB l := by
  unfold hasSuffix endB
  rw [Bool.eq_iff_iff, List.isSuffixOf_iff_suffix]
  constructor
  · rintro ⟨a, rfl⟩
    simp
  · intro h
    have h2 : l.getLast? = some 32 := by simpa using h
    obtain ⟨a, rfl⟩ := List.getLast?_eq_some_iff.1 h2
    exact ⟨a, rfl⟩

theorem hsuf_any (l : List UInt8) (hl : l.length ≤ 281474976710656) (w : World) :
    Calls Tryd.prog 31 #[.string ⟨l.toArray⟩, .string ⟨#[32]⟩] w fun e w' => e = .returned (.bool (endB l)) ∧ Below w.heap.size w w' := by
  have h := Tryd.strings_HasSuffix ⟨l.toArray⟩ ⟨#[32]⟩ w (by show l.toArray.size ≤ _; simp; omega)
  refine h.mono ?_
  rintro e w' ⟨rfl, rfl⟩
  exact ⟨by show Ending.returned (.bool (hasSuffix l [32])) = _; rw [suf_end], Below.refl _ _⟩

theorem trim_any' (l : List UInt8) (hl : l.length ≤ 281474976710656) (w : World) :
    Calls Tryd.prog 35 #[.string ⟨l.toArray⟩, .string ⟨#[32]⟩] w fun e w' => e = .returned (.string ⟨(trimB l 32).toArray⟩) ∧ Below w.heap.size w w' := by
  have h := Tryd.strings_Trim_one ⟨l.toArray⟩ 32 (by decide) w (by show l.toArray.size ≤ _; simp; omega)
  refine h.mono ?_
  rintro e w' ⟨rfl, rfl | rfl⟩
  · exact ⟨rfl, Below.refl _ _⟩
  · exact ⟨rfl, (Below.refl _ _).drew⟩

theorem prt_app (a b : List UInt8) : prt (a ++ b) = (prt a && prt b) := by unfold prt; rw [List.all_append]

theorem chk_parts {c : CD} (h : chkC c = true) (h1 : c.kd ≠ 1) : spareB c = false ∧ (prt c.t && prt c.o) = true ∧ endB c.t = false ∧ wrdB c.k = true ∧ remB c.k = false ∧ c.k ≠ sCON ∧ c.k ≠ sEND ∧ trimB c.o 32 = c.o ∧ c.t.length ≤ 300 ∧ c.kd ≤ 6 ∧ 1 ≤ c.kd := by
  unfold chkC at h
  rw [if_neg h1, Bool.and_eq_true] at h
  obtain ⟨ha, hb⟩ := h
  rw [Bool.and_eq_true, Bool.and_eq_true] at hb
  obtain ⟨⟨hb, -⟩, -⟩ := hb
  unfold chkC1 at ha
  unfold chkC3 at hb
  simp only [Bool.and_eq_true, Bool.not_eq_true', decide_eq_true_eq, beq_iff_eq, beq_eq_false_iff_ne] at ha hb
  obtain ⟨⟨⟨⟨a1, a2⟩, a3⟩, a4⟩, a5⟩ := ha
  obtain ⟨⟨⟨⟨⟨b1, b2⟩, b3⟩, b4⟩, b5⟩, b6⟩ := hb
  refine ⟨a3, ?_, a5, b1, b2, b3, b4, b5, b6, a2, a1⟩
  rw [a4.1, a4.2]; rfl

set_option maxRecDepth 100000 in
set_option maxHeartbeats 4000000 in
theorem check_plain (c : CD) (hc : OkC c) (ho : c.o.length ≤ 10000000000000) (h : chkC c = true) (hk1 : c.kd ≠ 1) (hk4 : c.kd ≠ 4) (hb70 : (behindS c).length ≤ 70) (w : World) (hE : Env w) :
    Calls Tryd.prog 17 #[.agg #[.string ⟨c.k.toArray⟩, .int .u8 c.kd, .bool c.y, .int .i64 c.n, .int .i64 c.e, .string ⟨c.t.toArray⟩, .string ⟨c.o.toArray⟩]] w fun e w' => e = .returned (.int .i64 0) ∧ Below w.heap.size w w' := by
  obtain ⟨p1, p2, p3, p4, p5, p6, p7, p8, p9, p10, p11⟩ := chk_parts h hk1
  have hK := hc.kd
  have k1 := hc.k
  have EN := Lib.hid hE
  have HB := Lib.hid (fun W (hW : Below w.heap.size w W) => behind_any c hc (fun _ => by omega) ho W (EN.out.keep hW))
  have HS := Lib.hid (fun W => spare_any c hc.kd W)
  have B0 : Hid (Below w.heap.size w (w.alloc (.cells #[.string ⟨c.k.toArray⟩, .int .u8 c.kd, .bool c.y, .int .i64 c.n, .int .i64 c.e, .string ⟨c.t.toArray⟩, .string ⟨c.o.toArray⟩] 62))) := blw1 _ _
  have K0 : Hid (BlkV (w.alloc (.cells #[.string ⟨c.k.toArray⟩, .int .u8 c.kd, .bool c.y, .int .i64 c.n, .int .i64 c.e, .string ⟨c.t.toArray⟩, .string ⟨c.o.toArray⟩] 62)) w.heap.size 62 #[.string ⟨c.k.toArray⟩, .int .u8 c.kd, .bool c.y, .int .i64 c.n, .int .i64 c.e, .string ⟨c.t.toArray⟩, .string ⟨c.o.toArray⟩]) := BlkV.fresh rfl _ _
  have HP := Lib.hid (prt_app c.t c.o)
  rw [p1] at HS
  clear hc hE EN h p1
  generalize behindS c = bh at *
  obtain ⟨k, kd, y, n, e, t, o⟩ := c
  dsimp only at *
  have PP : Hid (∀ W, Calls Tryd.prog 30 #[.string (ByteArray.mk t.toArray ++ ByteArray.mk o.toArray)] W fun x w' => x = .returned (.bool true) ∧ Below W.heap.size W w') := fun W => by
    rw [app_bytes, ← p2, ← HP.out]
    exact printable_any (t ++ o) (by rw [List.length_append]; omega) W
  have PS := Lib.hid (fun W => hsuf_any t (by omega) W)
  have PR := Lib.hid (fun W => isRemark_any k W)
  have PW := Lib.hid (fun W => isWord_any k k1 W)
  have PT := Lib.hid (fun W => trim_any' o (by omega) W)
  rw [p3] at PS
  rw [p4] at PW
  rw [p5] at PR
  rw [p8] at PT
  have q1 : (k == [67, 79, 78, 84, 73, 78, 85, 69]) = false := beq_eq_false_iff_ne.2 p6
  have q2 : (k == [69, 78, 68]) = false := beq_eq_false_iff_ne.2 p7
  have q3 : (o == o) = true := by simp
  have q3n : (o != o) = false := by simp
  have d1 : decide ((kd : Int) < 1) = false := decide_eq_false (by omega)
  have d2 : decide ((6 : Int) < (kd : Int)) = false := decide_eq_false (by omega)
  have a1 : ((kd : Int) == 1) = false := by simp; omega
  have a4 : ((kd : Int) == 4) = false := by simp; omega
  have d5 : decide ((300 : Int) < (t.length : Int)) = false := decide_eq_false (by omega)
  have d70 : decide ((70 : Int) < (bh.length : Int)) = false := decide_eq_false (by omega)
  clear HP p2 p3 p4 p5 p6 p7 p8
  go_enter Tryd.func17, Tryd.ntmps17
  go_wp2_with fail
  generalize hw0 : w.alloc (.cells #[.string ⟨k.toArray⟩, .int .u8 kd, .bool y, .int .i64 n, .int .i64 e, .string ⟨t.toArray⟩, .string ⟨o.toArray⟩] 62) = w0 at *
  clear hw0
  refine (HS.out w0).mono ?_
  rintro x w1 ⟨rfl, hb⟩
  replace B0 := Lib.hid (below_mono B0.out hb)
  replace K0 := Lib.hid (K0.out.keep hb)
  clear hb HS
  have c0 := K0.out.at_ 0 rfl
  have c1 := K0.out.at_ 1 rfl
  have c2 := K0.out.at_ 2 rfl
  have c3 := K0.out.at_ 3 rfl
  have c4 := K0.out.at_ 4 rfl
  have c5 := K0.out.at_ 5 rfl
  have c6 := K0.out.at_ 6 rfl
  go_wp2_with fail
  refine (PP.out _).mono ?_
  rintro x w1 ⟨rfl, hb⟩
  replace B0 := Lib.hid (below_mono B0.out hb)
  replace K0 := Lib.hid (K0.out.keep hb)
  clear hb c0 c1 c2 c3 c4 c5 c6
  have c0 := K0.out.at_ 0 rfl
  have c1 := K0.out.at_ 1 rfl
  have c2 := K0.out.at_ 2 rfl
  have c3 := K0.out.at_ 3 rfl
  have c4 := K0.out.at_ 4 rfl
  have c5 := K0.out.at_ 5 rfl
  have c6 := K0.out.at_ 6 rfl
  go_wp2_with fail
  refine (PS.out _).mono ?_
  rintro x w1 ⟨rfl, hb⟩
  replace B0 := Lib.hid (below_mono B0.out hb)
  replace K0 := Lib.hid (K0.out.keep hb)
  clear hb c0 c1 c2 c3 c4 c5 c6
  have c0 := K0.out.at_ 0 rfl
  have c1 := K0.out.at_ 1 rfl
  have c2 := K0.out.at_ 2 rfl
  have c3 := K0.out.at_ 3 rfl
  have c4 := K0.out.at_ 4 rfl
  have c5 := K0.out.at_ 5 rfl
  have c6 := K0.out.at_ 6 rfl
  go_upto_region 7 with fail
  have JS : Hid (∀ X, Below w1.heap.size w1 X → X.cell? ⟨w.heap.size, 0, none⟩ = some (.string ⟨k.toArray⟩) ∧ X.cell? ⟨w.heap.size, 5, none⟩ = some (.string ⟨t.toArray⟩) ∧ X.cell? ⟨w.heap.size, 6, none⟩ = some (.string ⟨o.toArray⟩)) := fun X h => ⟨kept_cell h (K0.out.at_ 0 rfl), kept_cell h (K0.out.at_ 5 rfl), kept_cell h (K0.out.at_ 6 rfl)⟩
  have Y0 : Hid (Below w1.heap.size w1 w1.drew) := (Below.refl _ _).drew
  clear c0 c1 c2 c3 c4 c5 c6
  refine wp_region_held_drew (S := fun w' => w'.cell? ⟨w.heap.size, 0, none⟩ = some (.string ⟨k.toArray⟩) ∧ w'.cell? ⟨w.heap.size, 5, none⟩ = some (.string ⟨t.toArray⟩) ∧ w'.cell? ⟨w.heap.size, 6, none⟩ = some (.string ⟨o.toArray⟩)) (by kernel_rfl) (JS.out _ Y0.out) (fun hHeld => ?_)
  generalize w1.drew = wd at *
  refine wpAnyH_take (i := 0) (v := .pointer (some ⟨w.heap.size, 0, none⟩)) rfl (by kernel_rfl) (by kernel_rfl) (by kernel_rfl) (fun _ _ _ h => h) (Or.inl ⟨by rfl, by intro w hSw; (try dsimp only at hSw); go_simp⟩) (by assumption) ?_
  (try simp only [Act.put, List.getElem_toArray, List.getElem_cons_zero, List.setIfInBounds_toArray, List.set_cons_zero, List.set_cons_succ])
  refine wpAnyH_take (i := 1) (v := .string ⟨k.toArray⟩) rfl (by kernel_rfl) (by kernel_rfl) (by kernel_rfl) (fun _ _ _ h => h) (Or.inl ⟨by rfl, by intro w hSw; (try dsimp only at hSw); go_simp⟩) (by assumption) ?_
  (try simp only [Act.put, List.getElem_toArray, List.getElem_cons_zero, List.getElem_cons_succ, List.setIfInBounds_toArray, List.set_cons_zero, List.set_cons_succ])
  refine wpAnyH_ready (rs := [2]) (by kernel_rfl) (by simp) ?_
  refine AllReadyH.cons rfl (fun K hK => ?_) AllReadyH.nil
  go_simp
  (with_reducible refine (PW.out wd).mono ?_)
  rintro x y1 ⟨rfl, hb⟩
  (try dsimp only)
  have Y1 := Lib.hid (below_mono Y0.out hb)
  clear hb
  (try go_wp2_with fail)
  refine hK.out _ _ (JS.out _ Y1.out) (fun hHeld2 => ?_)
  clear hK K hHeld
  have hHeld := hHeld2
  clear hHeld2
  (try simp only [Act.put, List.getElem_toArray, List.getElem_cons_zero, List.getElem_cons_succ, List.setIfInBounds_toArray, List.set_cons_zero, List.set_cons_succ])
  refine wpAnyH_take (i := 3) (v := .bool false) rfl (by kernel_rfl) (by kernel_rfl) (by kernel_rfl) (fun _ _ _ h => h) (Or.inl ⟨by rfl, by intro w hSw; (try dsimp only at hSw); go_simp⟩) (by assumption) ?_
  (try simp only [Act.put, List.getElem_toArray, List.getElem_cons_zero, List.getElem_cons_succ, List.setIfInBounds_toArray, List.set_cons_zero, List.set_cons_succ])
  refine wpAnyH_take (i := 4) (v := .bool false) rfl (by kernel_rfl) (by kernel_rfl) (by kernel_rfl) (fun _ _ _ h => h) (Or.inl ⟨by rfl, by intro w hSw; (try dsimp only at hSw); go_simp⟩) (by assumption) ?_
  (try simp only [Act.put, List.getElem_toArray, List.getElem_cons_zero, List.getElem_cons_succ, List.setIfInBounds_toArray, List.set_cons_zero, List.set_cons_succ])
  refine wpAnyH_take (i := 5) (v := .pointer (some ⟨w.heap.size, 0, none⟩)) rfl (by kernel_rfl) (by kernel_rfl) (by kernel_rfl) (fun _ _ _ h => h) (Or.inl ⟨by rfl, by intro w hSw; (try dsimp only at hSw); go_simp⟩) (by assumption) ?_
  (try simp only [Act.put, List.getElem_toArray, List.getElem_cons_zero, List.getElem_cons_succ, List.setIfInBounds_toArray, List.set_cons_zero, List.set_cons_succ])
  refine wpAnyH_take (i := 6) (v := .string ⟨k.toArray⟩) rfl (by kernel_rfl) (by kernel_rfl) (by kernel_rfl) (fun _ _ _ h => h) (Or.inl ⟨by rfl, by intro w hSw; (try dsimp only at hSw); go_simp⟩) (by assumption) ?_
  (try simp only [Act.put, List.getElem_toArray, List.getElem_cons_zero, List.getElem_cons_succ, List.setIfInBounds_toArray, List.set_cons_zero, List.set_cons_succ])
  have PRq : Calls Tryd.prog 32 #[.string ⟨k.toArray⟩] y1 fun x w' => x = .returned (.bool false) ∧ Below y1.heap.size y1 w' := (PR.out y1).mono fun x w' ⟨h1, h2⟩ => ⟨h1, h2 ▸ Below.refl _ _⟩
  refine wpAnyH_ready (rs := [7]) (by kernel_rfl) (by simp) ?_
  refine AllReadyH.cons rfl (fun K hK => ?_) AllReadyH.nil
  go_simp
  (with_reducible refine (PRq).mono ?_)
  rintro x y2 ⟨rfl, hb⟩
  (try dsimp only)
  have Y2 := Lib.hid (below_mono Y1.out hb)
  clear hb
  (try go_wp2_with fail)
  refine hK.out _ _ (JS.out _ Y2.out) (fun hHeld2 => ?_)
  clear hK K hHeld
  have hHeld := hHeld2
  clear hHeld2
  (try simp only [Act.put, List.getElem_toArray, List.getElem_cons_zero, List.getElem_cons_succ, List.setIfInBounds_toArray, List.set_cons_zero, List.set_cons_succ])
  clear PRq
  refine wpAnyH_take (i := 8) (v := .bool false) rfl (by kernel_rfl) (by kernel_rfl) (by kernel_rfl) (fun _ _ _ h => h) (Or.inl ⟨by rfl, by intro w hSw; (try dsimp only at hSw); go_simp⟩) (by assumption) ?_
  (try simp only [Act.put, List.getElem_toArray, List.getElem_cons_zero, List.getElem_cons_succ, List.setIfInBounds_toArray, List.set_cons_zero, List.set_cons_succ])
  refine wpAnyH_take (i := 9) (v := .bool false) rfl (by kernel_rfl) (by kernel_rfl) (by kernel_rfl) (fun _ _ _ h => h) (Or.inl ⟨by rfl, by intro w hSw; (try dsimp only at hSw); go_simp⟩) (by assumption) ?_
  (try simp only [Act.put, List.getElem_toArray, List.getElem_cons_zero, List.getElem_cons_succ, List.setIfInBounds_toArray, List.set_cons_zero, List.set_cons_succ])
  refine wpAnyH_take (i := 10) (v := .pointer (some ⟨w.heap.size, 0, none⟩)) rfl (by kernel_rfl) (by kernel_rfl) (by kernel_rfl) (fun _ _ _ h => h) (Or.inl ⟨by rfl, by intro w hSw; (try dsimp only at hSw); go_simp⟩) (by assumption) ?_
  (try simp only [Act.put, List.getElem_toArray, List.getElem_cons_zero, List.getElem_cons_succ, List.setIfInBounds_toArray, List.set_cons_zero, List.set_cons_succ])
  refine wpAnyH_take (i := 11) (v := .string ⟨k.toArray⟩) rfl (by kernel_rfl) (by kernel_rfl) (by kernel_rfl) (fun _ _ _ h => h) (Or.inl ⟨by rfl, by intro w hSw; (try dsimp only at hSw); go_simp⟩) (by assumption) ?_
  (try simp only [Act.put, List.getElem_toArray, List.getElem_cons_zero, List.getElem_cons_succ, List.setIfInBounds_toArray, List.set_cons_zero, List.set_cons_succ])
  refine wpAnyH_take (i := 12) (v := .bool false) rfl (by kernel_rfl) (by kernel_rfl) (by kernel_rfl) (fun _ _ _ h => h) (Or.inl ⟨by rfl, by intro w hSw; (try dsimp only at hSw); go_simp⟩) (by assumption) ?_
  (try simp only [Act.put, List.getElem_toArray, List.getElem_cons_zero, List.getElem_cons_succ, List.setIfInBounds_toArray, List.set_cons_zero, List.set_cons_succ])
  refine wpAnyH_take (i := 13) (v := .bool false) rfl (by kernel_rfl) (by kernel_rfl) (by kernel_rfl) (fun _ _ _ h => h) (Or.inl ⟨by rfl, by intro w hSw; (try dsimp only at hSw); go_simp⟩) (by assumption) ?_
  (try simp only [Act.put, List.getElem_toArray, List.getElem_cons_zero, List.getElem_cons_succ, List.setIfInBounds_toArray, List.set_cons_zero, List.set_cons_succ])
  refine wpAnyH_take (i := 14) (v := .bool false) rfl (by kernel_rfl) (by kernel_rfl) (by kernel_rfl) (fun _ _ _ h => h) (Or.inl ⟨by rfl, by intro w hSw; (try dsimp only at hSw); go_simp⟩) (by assumption) ?_
  (try simp only [Act.put, List.getElem_toArray, List.getElem_cons_zero, List.getElem_cons_succ, List.setIfInBounds_toArray, List.set_cons_zero, List.set_cons_succ])
  refine wpAnyH_take (i := 15) (v := .pointer (some ⟨w.heap.size, 0, none⟩)) rfl (by kernel_rfl) (by kernel_rfl) (by kernel_rfl) (fun _ _ _ h => h) (Or.inl ⟨by rfl, by intro w hSw; (try dsimp only at hSw); go_simp⟩) (by assumption) ?_
  (try simp only [Act.put, List.getElem_toArray, List.getElem_cons_zero, List.getElem_cons_succ, List.setIfInBounds_toArray, List.set_cons_zero, List.set_cons_succ])
  refine wpAnyH_take (i := 16) (v := .string ⟨k.toArray⟩) rfl (by kernel_rfl) (by kernel_rfl) (by kernel_rfl) (fun _ _ _ h => h) (Or.inl ⟨by rfl, by intro w hSw; (try dsimp only at hSw); go_simp⟩) (by assumption) ?_
  (try simp only [Act.put, List.getElem_toArray, List.getElem_cons_zero, List.getElem_cons_succ, List.setIfInBounds_toArray, List.set_cons_zero, List.set_cons_succ])
  refine wpAnyH_take (i := 17) (v := .bool false) rfl (by kernel_rfl) (by kernel_rfl) (by kernel_rfl) (fun _ _ _ h => h) (Or.inl ⟨by rfl, by intro w hSw; (try dsimp only at hSw); go_simp⟩) (by assumption) ?_
  (try simp only [Act.put, List.getElem_toArray, List.getElem_cons_zero, List.getElem_cons_succ, List.setIfInBounds_toArray, List.set_cons_zero, List.set_cons_succ])
  refine wpAnyH_take (i := 18) (v := .bool false) rfl (by kernel_rfl) (by kernel_rfl) (by kernel_rfl) (fun _ _ _ h => h) (Or.inl ⟨by rfl, by intro w hSw; (try dsimp only at hSw); go_simp⟩) (by assumption) ?_
  (try simp only [Act.put, List.getElem_toArray, List.getElem_cons_zero, List.getElem_cons_succ, List.setIfInBounds_toArray, List.set_cons_zero, List.set_cons_succ])
  refine wpAnyH_take (i := 19) (v := .bool false) rfl (by kernel_rfl) (by kernel_rfl) (by kernel_rfl) (fun _ _ _ h => h) (Or.inl ⟨by rfl, by intro w hSw; (try dsimp only at hSw); go_simp⟩) (by assumption) ?_
  (try simp only [Act.put, List.getElem_toArray, List.getElem_cons_zero, List.getElem_cons_succ, List.setIfInBounds_toArray, List.set_cons_zero, List.set_cons_succ])
  refine wpAnyH_take (i := 20) (v := .pointer (some ⟨w.heap.size, 6, none⟩)) rfl (by kernel_rfl) (by kernel_rfl) (by kernel_rfl) (fun _ _ _ h => h) (Or.inl ⟨by rfl, by intro w hSw; (try dsimp only at hSw); go_simp⟩) (by assumption) ?_
  (try simp only [Act.put, List.getElem_toArray, List.getElem_cons_zero, List.getElem_cons_succ, List.setIfInBounds_toArray, List.set_cons_zero, List.set_cons_succ])
  refine wpAnyH_take (i := 21) (v := .string ⟨o.toArray⟩) rfl (by kernel_rfl) (by kernel_rfl) (by kernel_rfl) (fun _ _ _ h => h) (Or.inl ⟨by rfl, by intro w hSw; (try dsimp only at hSw); go_simp⟩) (by assumption) ?_
  (try simp only [Act.put, List.getElem_toArray, List.getElem_cons_zero, List.getElem_cons_succ, List.setIfInBounds_toArray, List.set_cons_zero, List.set_cons_succ])
  refine wpAnyH_take (i := 23) (v := .pointer (some ⟨w.heap.size, 6, none⟩)) rfl (by kernel_rfl) (by kernel_rfl) (by kernel_rfl) (fun _ _ _ h => h) (Or.inl ⟨by rfl, by intro w hSw; (try dsimp only at hSw); go_simp⟩) (by assumption) ?_
  (try simp only [Act.put, List.getElem_toArray, List.getElem_cons_zero, List.getElem_cons_succ, List.setIfInBounds_toArray, List.set_cons_zero, List.set_cons_succ])
  refine wpAnyH_take (i := 24) (v := .string ⟨o.toArray⟩) rfl (by kernel_rfl) (by kernel_rfl) (by kernel_rfl) (fun _ _ _ h => h) (Or.inl ⟨by rfl, by intro w hSw; (try dsimp only at hSw); go_simp⟩) (by assumption) ?_
  (try simp only [Act.put, List.getElem_toArray, List.getElem_cons_zero, List.getElem_cons_succ, List.setIfInBounds_toArray, List.set_cons_zero, List.set_cons_succ])
  refine wpAnyH_ready (rs := [22]) (by kernel_rfl) (by simp) ?_
  refine AllReadyH.cons rfl (fun K hK => ?_) AllReadyH.nil
  go_simp
  (with_reducible refine (PT.out y2).mono ?_)
  rintro x y3 ⟨rfl, hb⟩
  (try dsimp only)
  have Y3 := Lib.hid (below_mono Y2.out hb)
  clear hb
  (try go_wp2_with fail)
  refine hK.out _ _ (JS.out _ Y3.out) (fun hHeld2 => ?_)
  clear hK K hHeld
  have hHeld := hHeld2
  clear hHeld2
  (try simp only [Act.put, List.getElem_toArray, List.getElem_cons_zero, List.getElem_cons_succ, List.setIfInBounds_toArray, List.set_cons_zero, List.set_cons_succ])
  refine wpAnyH_take (i := 25) (v := .bool false) rfl (by kernel_rfl) (by kernel_rfl) (by kernel_rfl) (fun _ _ _ h => h) (Or.inl ⟨by rfl, by intro w hSw; (try dsimp only at hSw); go_simp⟩) (by assumption) ?_
  (try simp only [Act.put, List.getElem_toArray, List.getElem_cons_zero, List.getElem_cons_succ, List.setIfInBounds_toArray, List.set_cons_zero, List.set_cons_succ])
  refine wpAnyH_take (i := 26) (v := .bool false) rfl (by kernel_rfl) (by kernel_rfl) (by kernel_rfl) (fun _ _ _ h => h) (Or.inl ⟨by rfl, by intro w hSw; (try dsimp only at hSw); go_simp⟩) (by assumption) ?_
  (try simp only [Act.put, List.getElem_toArray, List.getElem_cons_zero, List.getElem_cons_succ, List.setIfInBounds_toArray, List.set_cons_zero, List.set_cons_succ])
  refine wpAnyH_take (i := 27) (v := .bool false) rfl (by kernel_rfl) (by kernel_rfl) (by kernel_rfl) (fun _ _ _ h => h) (Or.inl ⟨by rfl, by intro w hSw; (try dsimp only at hSw); go_simp⟩) (by assumption) ?_
  (try simp only [Act.put, List.getElem_toArray, List.getElem_cons_zero, List.getElem_cons_succ, List.setIfInBounds_toArray, List.set_cons_zero, List.set_cons_succ])
  refine wpAnyH_take (i := 28) (v := .pointer (some ⟨w.heap.size, 5, none⟩)) rfl (by kernel_rfl) (by kernel_rfl) (by kernel_rfl) (fun _ _ _ h => h) (Or.inl ⟨by rfl, by intro w hSw; (try dsimp only at hSw); go_simp⟩) (by assumption) ?_
  (try simp only [Act.put, List.getElem_toArray, List.getElem_cons_zero, List.getElem_cons_succ, List.setIfInBounds_toArray, List.set_cons_zero, List.set_cons_succ])
  refine wpAnyH_take (i := 29) (v := .string ⟨t.toArray⟩) rfl (by kernel_rfl) (by kernel_rfl) (by kernel_rfl) (fun _ _ _ h => h) (Or.inl ⟨by rfl, by intro w hSw; (try dsimp only at hSw); go_simp⟩) (by assumption) ?_
  (try simp only [Act.put, List.getElem_toArray, List.getElem_cons_zero, List.getElem_cons_succ, List.setIfInBounds_toArray, List.set_cons_zero, List.set_cons_succ])
  refine wpAnyH_take (i := 30) (v := .int .i64 t.length) rfl (by kernel_rfl) (by kernel_rfl) (by kernel_rfl) (fun _ _ _ h => h) (Or.inl ⟨by rfl, by intro w hSw; (try dsimp only at hSw); go_simp⟩) (by assumption) ?_
  (try simp only [Act.put, List.getElem_toArray, List.getElem_cons_zero, List.getElem_cons_succ, List.setIfInBounds_toArray, List.set_cons_zero, List.set_cons_succ])
  refine wpAnyH_take (i := 31) (v := .bool false) rfl (by kernel_rfl) (by kernel_rfl) (by kernel_rfl) (fun _ _ _ h => h) (Or.inl ⟨by rfl, by intro w hSw; (try dsimp only at hSw); go_simp⟩) (by assumption) ?_
  (try simp only [Act.put, List.getElem_toArray, List.getElem_cons_zero, List.getElem_cons_succ, List.setIfInBounds_toArray, List.set_cons_zero, List.set_cons_succ])
  refine wpAnyH_take (i := 32) (v := .bool false) rfl (by kernel_rfl) (by kernel_rfl) (by kernel_rfl) (fun _ _ _ h => h) (Or.inl ⟨by rfl, by intro w hSw; (try dsimp only at hSw); go_simp⟩) (by assumption) ?_
  (try simp only [Act.put, List.getElem_toArray, List.getElem_cons_zero, List.getElem_cons_succ, List.setIfInBounds_toArray, List.set_cons_zero, List.set_cons_succ])
  refine wpAnyH_done (by kernel_rfl) ?_ _
  have hb := Y3.out
  clear hHeld JS
  replace B0 := Lib.hid (below_mono B0.out hb)
  replace K0 := Lib.hid (K0.out.keep hb)
  clear hb Y0 Y1 Y2 Y3
  have c0 := K0.out.at_ 0 rfl
  have c1 := K0.out.at_ 1 rfl
  have c2 := K0.out.at_ 2 rfl
  have c3 := K0.out.at_ 3 rfl
  have c4 := K0.out.at_ 4 rfl
  have c5 := K0.out.at_ 5 rfl
  have c6 := K0.out.at_ 6 rfl
  go_wp2_with fail
  refine (HB.out _ B0.out).mono ?_
  rintro x w1 ⟨rfl, hb⟩
  replace B0 := Lib.hid (below_mono B0.out hb)
  replace K0 := Lib.hid (K0.out.keep hb)
  clear hb c0 c1 c2 c3 c4 c5 c6
  have c0 := K0.out.at_ 0 rfl
  have c1 := K0.out.at_ 1 rfl
  have c2 := K0.out.at_ 2 rfl
  have c3 := K0.out.at_ 3 rfl
  have c4 := K0.out.at_ 4 rfl
  have c5 := K0.out.at_ 5 rfl
  have c6 := K0.out.at_ 6 rfl
  go_wp2
  go_ret
  exact ⟨rfl, B0.out⟩

end Go.Proofs.YtgkamalgokebgaaDoor

import Derived.Test.YtgkamalgokebgaaDoorFr4
namespace Go.Proofs.YtgkamalgokebgaaDoor
open Go.RowKit Go.Lib Go.Shelf
attribute [local go_sem ↓] Go.wp_at_zero Go.wp_at_succ
theorem text_x (W : World) : Calls Tryd.prog 22 #[.string ⟨#[88, 84, 69, 78, 83, 73, 79, 78]⟩, .string ⟨#[73, 77, 65, 71, 69]⟩] W fun e w' => e = .returned (.agg #[.string ⟨#[88, 84, 69, 78, 83, 73, 79, 78]⟩, .int .u8 5, .bool false, .int .i64 0, .int .i64 0, .string ⟨#[73, 77, 65, 71, 69]⟩, .string ⟨#[]⟩]) ∧ Below W.heap.size W w' := text_any [88, 84, 69, 78, 83, 73, 79, 78] [73, 77, 65, 71, 69] W

theorem whole_b (W : World) : Calls Tryd.prog 38 #[.string ⟨#[66, 73, 84, 80, 73, 88]⟩, .int .i64 8] W fun e w' => e = .returned (.agg #[.string ⟨#[66, 73, 84, 80, 73, 88]⟩, .int .u8 3, .bool false, .int .i64 8, .int .i64 0, .string ⟨#[]⟩, .string ⟨#[]⟩]) ∧ Below W.heap.size W w' := whole_any [66, 73, 84, 80, 73, 88] 8 W

theorem whole_n (W : World) : Calls Tryd.prog 38 #[.string ⟨#[78, 65, 88, 73, 83]⟩, .int .i64 0] W fun e w' => e = .returned (.agg #[.string ⟨#[78, 65, 88, 73, 83]⟩, .int .u8 3, .bool false, .int .i64 0, .int .i64 0, .string ⟨#[]⟩, .string ⟨#[]⟩]) ∧ Below W.heap.size W w' := whole_any [78, 65, 88, 73, 83] 0 W

set_option maxRecDepth 100000 in
set_option maxHeartbeats 4000000 in
theorem front8 (w : World) : Calls Tryd.prog 21 #[.agg #[.int .i64 8, .slice none 0 0], .bool true] w fun e w' => ∃ g, e = .returned (.slice (some ⟨g, 0, none⟩) 3 3) ∧ w.heap.size ≤ g ∧ BlkV w' g 62 #[.string ⟨#[83, 73, 77, 80, 76, 69]⟩, .int .u8 2, .bool true, .int .i64 0, .int .i64 0, .string ⟨#[]⟩, .string ⟨#[]⟩, .string ⟨#[66, 73, 84, 80, 73, 88]⟩, .int .u8 3, .bool false, .int .i64 8, .int .i64 0, .string ⟨#[]⟩, .string ⟨#[]⟩, .string ⟨#[78, 65, 88, 73, 83]⟩, .int .u8 3, .bool false, .int .i64 0, .int .i64 0, .string ⟨#[]⟩, .string ⟨#[]⟩] ∧ Below w.heap.size w w' := by
  have C0 := Lib.hid text_x
  have C3 := Lib.hid whole_b
  have C7 := Lib.hid whole_n
  have K0 : Hid (BlkV (w.alloc (.cells #[Value.int .i64 8, .slice none 0 0] 57)) w.heap.size 57 #[Value.int .i64 8, .slice none 0 0]) := BlkV.fresh rfl _ _
  have B0 : Hid (Below w.heap.size w (w.alloc (.cells #[Value.int .i64 8, .slice none 0 0] 57))) := blw1 _ _
  go_enter Tryd.func21, Tryd.ntmps21
  go_upto_region 1 with fail
  generalize w.alloc (.cells #[Value.int .i64 8, .slice none 0 0] 57) = w0 at *
  go_cut [5] from 8 to 16 (fun s5 wc => ∃ g, s5 = .slice (some ⟨g, 0, none⟩) 3 3 ∧ w0.heap.size ≤ g ∧ BlkV wc g 62 #[.string ⟨#[88, 84, 69, 78, 83, 73, 79, 78]⟩, .int .u8 5, .bool false, .int .i64 0, .int .i64 0, .string ⟨#[73, 77, 65, 71, 69]⟩, .string ⟨#[]⟩, .string ⟨#[66, 73, 84, 80, 73, 88]⟩, .int .u8 3, .bool false, .int .i64 8, .int .i64 0, .string ⟨#[]⟩, .string ⟨#[]⟩, .string ⟨#[78, 65, 88, 73, 83]⟩, .int .u8 3, .bool false, .int .i64 0, .int .i64 0, .string ⟨#[]⟩, .string ⟨#[]⟩] ∧ Below w0.heap.size w0 wc)
  case first =>
    have JS : Hid (∀ X, Below w0.heap.size w0 X → X.cell? ⟨w.heap.size, 0, none⟩ = some (.int .i64 8) ∧ X.cell? ⟨w.heap.size, 1, none⟩ = some (.slice none 0 0)) := fun X h => ⟨kept_cell h (K0.out.at_ 0 rfl), kept_cell h (K0.out.at_ 1 rfl)⟩
    have Y0 : Hid (Below w0.heap.size w0 w0.drew) := (Below.refl _ _).drew
    refine wp_region_held_drew (S := fun w' => w'.cell? ⟨w.heap.size, 0, none⟩ = some (.int .i64 8) ∧ w'.cell? ⟨w.heap.size, 1, none⟩ = some (.slice none 0 0)) (by kernel_rfl) (JS.out _ Y0.out) (fun hHeld => ?_)
    generalize w0.drew = wd at *
    refine wpAnyH_take (i := 1) (v := .pointer (some ⟨w.heap.size, 0, none⟩)) rfl (by kernel_rfl) (by kernel_rfl) (by kernel_rfl) (fun _ _ _ h => h) (Or.inl ⟨by rfl, by intro w hSw; (try dsimp only at hSw); go_simp⟩) (by assumption) ?_
    (try simp only [Act.put, List.getElem_toArray, List.getElem_cons_zero, List.getElem_cons_succ, List.setIfInBounds_toArray, List.set_cons_zero, List.set_cons_succ])
    refine wpAnyH_take (i := 2) (v := .int .i64 8) rfl (by kernel_rfl) (by kernel_rfl) (by kernel_rfl) (fun _ _ _ h => h) (Or.inl ⟨by rfl, by intro w hSw; (try dsimp only at hSw); go_simp⟩) (by assumption) ?_
    (try simp only [Act.put, List.getElem_toArray, List.getElem_cons_zero, List.getElem_cons_succ, List.setIfInBounds_toArray, List.set_cons_zero, List.set_cons_succ])
    refine wpAnyH_take (i := 4) (v := .pointer (some ⟨w.heap.size, 1, none⟩)) rfl (by kernel_rfl) (by kernel_rfl) (by kernel_rfl) (fun _ _ _ h => h) (Or.inl ⟨by rfl, by intro w hSw; (try dsimp only at hSw); go_simp⟩) (by assumption) ?_
    (try simp only [Act.put, List.getElem_toArray, List.getElem_cons_zero, List.getElem_cons_succ, List.setIfInBounds_toArray, List.set_cons_zero, List.set_cons_succ])
    refine wpAnyH_take (i := 5) (v := .slice none 0 0) rfl (by kernel_rfl) (by kernel_rfl) (by kernel_rfl) (fun _ _ _ h => h) (Or.inl ⟨by rfl, by intro w hSw; (try dsimp only at hSw); go_simp⟩) (by assumption) ?_
    (try simp only [Act.put, List.getElem_toArray, List.getElem_cons_zero, List.getElem_cons_succ, List.setIfInBounds_toArray, List.set_cons_zero, List.set_cons_succ])
    refine wpAnyH_take (i := 6) (v := .int .i64 0) rfl (by kernel_rfl) (by kernel_rfl) (by kernel_rfl) (fun _ _ _ h => h) (Or.inl ⟨by rfl, by intro w hSw; (try dsimp only at hSw); go_simp⟩) (by assumption) ?_
    (try simp only [Act.put, List.getElem_toArray, List.getElem_cons_zero, List.getElem_cons_succ, List.setIfInBounds_toArray, List.set_cons_zero, List.set_cons_succ])
    refine wpAnyH_ready (rs := [0]) (by kernel_rfl) (by simp) ?_
    refine AllReadyH.cons rfl (fun K hK => ?_) AllReadyH.nil
    go_simp
    (with_reducible refine (C0.out wd).mono ?_)
    rintro x v1 ⟨rfl, hb⟩
    (try dsimp only)
    have Y1 := Lib.hid (below_mono Y0.out hb)
    clear hb
    (try go_wp2_with fail)
    refine hK.out _ _ (JS.out _ Y1.out) (fun hHeld2 => ?_)
    clear hK K hHeld
    have hHeld := hHeld2
    clear hHeld2
    (try simp only [Act.put, List.getElem_toArray, List.getElem_cons_zero, List.getElem_cons_succ, List.setIfInBounds_toArray, List.set_cons_zero, List.set_cons_succ])
    refine wpAnyH_ready (rs := [3]) (by kernel_rfl) (by simp) ?_
    refine AllReadyH.cons rfl (fun K hK => ?_) AllReadyH.nil
    go_simp
    (with_reducible refine (C3.out v1).mono ?_)
    rintro x v2 ⟨rfl, hb⟩
    (try dsimp only)
    have Y2 := Lib.hid (below_mono Y1.out hb)
    clear hb
    (try go_wp2_with fail)
    refine hK.out _ _ (JS.out _ Y2.out) (fun hHeld2 => ?_)
    clear hK K hHeld
    have hHeld := hHeld2
    clear hHeld2
    (try simp only [Act.put, List.getElem_toArray, List.getElem_cons_zero, List.getElem_cons_succ, List.setIfInBounds_toArray, List.set_cons_zero, List.set_cons_succ])
    refine wpAnyH_ready (rs := [7]) (by kernel_rfl) (by simp) ?_
    refine AllReadyH.cons rfl (fun K hK => ?_) AllReadyH.nil
    go_simp
    (with_reducible refine (C7.out v2).mono ?_)
    rintro x v3 ⟨rfl, hb⟩
    (try dsimp only)
    have Y3 := Lib.hid (below_mono Y2.out hb)
    clear hb
    (try go_wp2_with fail)
    refine hK.out _ _ (JS.out _ Y3.out) (fun hHeld2 => ?_)
    clear hK K hHeld
    have hHeld := hHeld2
    clear hHeld2
    (try simp only [Act.put, List.getElem_toArray, List.getElem_cons_zero, List.getElem_cons_succ, List.setIfInBounds_toArray, List.set_cons_zero, List.set_cons_succ])
    refine wpAnyH_ready (rs := [8]) (by kernel_rfl) (by simp) ?_
    refine AllReadyH.cons rfl (fun K hK => ?_) AllReadyH.nil
    go_simp
    have hb := blw1 v3 (.cells #[.string ⟨#[88, 84, 69, 78, 83, 73, 79, 78]⟩, .int .u8 5, .bool false, .int .i64 0, .int .i64 0, .string ⟨#[73, 77, 65, 71, 69]⟩, .string ⟨#[]⟩, .string ⟨#[66, 73, 84, 80, 73, 88]⟩, .int .u8 3, .bool false, .int .i64 8, .int .i64 0, .string ⟨#[]⟩, .string ⟨#[]⟩, .string ⟨#[78, 65, 88, 73, 83]⟩, .int .u8 3, .bool false, .int .i64 0, .int .i64 0, .string ⟨#[]⟩, .string ⟨#[]⟩] 62)
    have NB : Hid (BlkV (v3.alloc (.cells #[.string ⟨#[88, 84, 69, 78, 83, 73, 79, 78]⟩, .int .u8 5, .bool false, .int .i64 0, .int .i64 0, .string ⟨#[73, 77, 65, 71, 69]⟩, .string ⟨#[]⟩, .string ⟨#[66, 73, 84, 80, 73, 88]⟩, .int .u8 3, .bool false, .int .i64 8, .int .i64 0, .string ⟨#[]⟩, .string ⟨#[]⟩, .string ⟨#[78, 65, 88, 73, 83]⟩, .int .u8 3, .bool false, .int .i64 0, .int .i64 0, .string ⟨#[]⟩, .string ⟨#[]⟩] 62)) v3.heap.size 62 #[.string ⟨#[88, 84, 69, 78, 83, 73, 79, 78]⟩, .int .u8 5, .bool false, .int .i64 0, .int .i64 0, .string ⟨#[73, 77, 65, 71, 69]⟩, .string ⟨#[]⟩, .string ⟨#[66, 73, 84, 80, 73, 88]⟩, .int .u8 3, .bool false, .int .i64 8, .int .i64 0, .string ⟨#[]⟩, .string ⟨#[]⟩, .string ⟨#[78, 65, 88, 73, 83]⟩, .int .u8 3, .bool false, .int .i64 0, .int .i64 0, .string ⟨#[]⟩, .string ⟨#[]⟩]) := BlkV.fresh rfl _ _
    have hge := Y3.out.size
    generalize v3.alloc (.cells #[.string ⟨#[88, 84, 69, 78, 83, 73, 79, 78]⟩, .int .u8 5, .bool false, .int .i64 0, .int .i64 0, .string ⟨#[73, 77, 65, 71, 69]⟩, .string ⟨#[]⟩, .string ⟨#[66, 73, 84, 80, 73, 88]⟩, .int .u8 3, .bool false, .int .i64 8, .int .i64 0, .string ⟨#[]⟩, .string ⟨#[]⟩, .string ⟨#[78, 65, 88, 73, 83]⟩, .int .u8 3, .bool false, .int .i64 0, .int .i64 0, .string ⟨#[]⟩, .string ⟨#[]⟩] 62) = v4 at *
    have Y4 := Lib.hid (below_mono Y3.out hb)
    refine hK.out _ _ (JS.out _ Y4.out) (fun hHeld2 => ?_)
    clear hK K hHeld
    have hHeld := hHeld2
    clear hHeld2
    (try simp only [Act.put, List.getElem_toArray, List.getElem_cons_zero, List.getElem_cons_succ, List.setIfInBounds_toArray, List.set_cons_zero, List.set_cons_succ])
    refine wpAnyH_take (i := 9) (v := .slice (some ⟨v3.heap.size, 0, none⟩) 3 3) rfl (by kernel_rfl) (by kernel_rfl) (by kernel_rfl) (fun _ _ _ h => h) (Or.inl ⟨by rfl, by intro w hSw; (try dsimp only at hSw); go_simp⟩) (by assumption) ?_
    (try simp only [Act.put, List.getElem_toArray, List.getElem_cons_zero, List.getElem_cons_succ, List.setIfInBounds_toArray, List.set_cons_zero, List.set_cons_succ])
    refine wpAnyH_done (by kernel_rfl) ?_ _
    clear hHeld
    go_wp2_with fail
    go_meet
    exact ⟨v3.heap.size, rfl, hge, NB.out, Y4.out⟩
  case rest =>
    obtain ⟨g, rfl, hge, hbk, hb⟩ := hcut
    have KB := Lib.hid hbk
    have K1 := Lib.hid (K0.out.keep hb)
    have hge2 := Nat.le_trans B0.out.size hge
    replace B0 := Lib.hid (below_mono B0.out hb)
    have hlt := Nat.ne_of_gt (Nat.lt_of_lt_of_le K0.out.lt hge)
    clear hbk hb K0 C0 C3 C7 hge
    obtain ⟨x0, c0⟩ : ∃ v, wc.cell? ⟨g, 0, none⟩ = some v := ⟨_, KB.out.at_ 0 rfl⟩
    obtain ⟨x1, c1⟩ : ∃ v, wc.cell? ⟨g, 1, none⟩ = some v := ⟨_, KB.out.at_ 1 rfl⟩
    obtain ⟨x2, c2⟩ : ∃ v, wc.cell? ⟨g, 2, none⟩ = some v := ⟨_, KB.out.at_ 2 rfl⟩
    obtain ⟨x3, c3⟩ : ∃ v, wc.cell? ⟨g, 3, none⟩ = some v := ⟨_, KB.out.at_ 3 rfl⟩
    obtain ⟨x4, c4⟩ : ∃ v, wc.cell? ⟨g, 4, none⟩ = some v := ⟨_, KB.out.at_ 4 rfl⟩
    obtain ⟨x5, c5⟩ : ∃ v, wc.cell? ⟨g, 5, none⟩ = some v := ⟨_, KB.out.at_ 5 rfl⟩
    obtain ⟨x6, c6⟩ : ∃ v, wc.cell? ⟨g, 6, none⟩ = some v := ⟨_, KB.out.at_ 6 rfl⟩
    have f0 := KB.out.frozen 0
    have f1 := KB.out.frozen 1
    have f2 := KB.out.frozen 2
    have f3 := KB.out.frozen 3
    have f4 := KB.out.frozen 4
    have f5 := KB.out.frozen 5
    have f6 := KB.out.frozen 6
    go_upto_region 3 with fail
    go_cut [] from 18 to 20 (fun wq => BlkV wq g 62 #[.string ⟨#[83, 73, 77, 80, 76, 69]⟩, .int .u8 2, .bool true, .int .i64 0, .int .i64 0, .string ⟨#[]⟩, .string ⟨#[]⟩, .string ⟨#[66, 73, 84, 80, 73, 88]⟩, .int .u8 3, .bool false, .int .i64 8, .int .i64 0, .string ⟨#[]⟩, .string ⟨#[]⟩, .string ⟨#[78, 65, 88, 73, 83]⟩, .int .u8 3, .bool false, .int .i64 0, .int .i64 0, .string ⟨#[]⟩, .string ⟨#[]⟩] ∧ BlkV wq w.heap.size 57 #[Value.int .i64 8, .slice none 0 0] ∧ Below w.heap.size w wq)
    case first =>
      go_wp2_with fail
      go_meet
      exact ⟨(((((((KB.out.set_ 0 (.string ⟨#[83, 73, 77, 80, 76, 69]⟩)).set_ 1 (.int .u8 2)).set_ 2 (.bool true)).set_ 3 (.int .i64 0)).set_ 4 (.int .i64 0)).set_ 5 (.string ⟨#[]⟩)).set_ 6 (.string ⟨#[]⟩)), (((((((K1.out.far (p := ⟨g, 0, none⟩) hlt.symm (.string ⟨#[83, 73, 77, 80, 76, 69]⟩)).far (p := ⟨g, 1, none⟩) hlt.symm (.int .u8 2)).far (p := ⟨g, 2, none⟩) hlt.symm (.bool true)).far (p := ⟨g, 3, none⟩) hlt.symm (.int .i64 0)).far (p := ⟨g, 4, none⟩) hlt.symm (.int .i64 0)).far (p := ⟨g, 5, none⟩) hlt.symm (.string ⟨#[]⟩)).far (p := ⟨g, 6, none⟩) hlt.symm (.string ⟨#[]⟩)), (((((((B0.out.setCell (p := ⟨g, 0, none⟩) hge2 (.string ⟨#[83, 73, 77, 80, 76, 69]⟩)).setCell (p := ⟨g, 1, none⟩) hge2 (.int .u8 2)).setCell (p := ⟨g, 2, none⟩) hge2 (.bool true)).setCell (p := ⟨g, 3, none⟩) hge2 (.int .i64 0)).setCell (p := ⟨g, 4, none⟩) hge2 (.int .i64 0)).setCell (p := ⟨g, 5, none⟩) hge2 (.string ⟨#[]⟩)).setCell (p := ⟨g, 6, none⟩) hge2 (.string ⟨#[]⟩))⟩
    case rest =>
      clear c0 f0 c1 f1 c2 f2 c3 f3 c4 f4 c5 f5 c6 f6
      obtain ⟨k1, k2, k3⟩ := hcut
      generalize wc = wk at *
      have e1 := k2.at_ 1 (v := .slice none 0 0) rfl
      replace KB := Lib.hid k1
      replace B0 := Lib.hid k3
      clear k1 k2 k3
      go_wp2_with fail
      go_loopw [5, 24] (fun s s2 wz => s = .slice (some ⟨g, 0, none⟩) 3 3 ∧ s2 = .int .i64 0 ∧ wz = wk) (fun _ _ _ => 0)
      case atStart => exact ⟨rfl, rfl, rfl⟩
      case round =>
        obtain ⟨rfl, rfl, rfl⟩ := hrel
        go_wp2
        go_ret
        exact ⟨g, rfl, hge2, KB.out, B0.out⟩

end Go.Proofs.YtgkamalgokebgaaDoor

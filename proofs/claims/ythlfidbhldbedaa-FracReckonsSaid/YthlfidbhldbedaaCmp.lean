/- Walks: compare of the program (a range over a function) and of the reference. -/
import Derived.Test.YthlfidbhldbedaaDown
namespace Go.Proofs.Ythlfidbhldbedaa
open Go.RowKit Go.Shelf
theorem cmp_done (a b : List Nat) (n : Nat) : ∀ (m : Nat) (h : m ≤ n), (∀ p ∈ downA n m h, a[p.1]?.getD 0 = b[p.1]?.getD 0) → cmpTop a b m = 0
  | 0, _, _ => rfl
  | m + 1, h, hp => by
    have h1 := hp ⟨m, by omega⟩ (by simp [downA])
    dsimp only at h1
    rw [cmpTop, if_neg (by omega), if_neg (by omega)]
    exact cmp_done a b n m (by omega) (fun p hp' => hp p (by rw [downA]; exact List.mem_cons_of_mem _ hp'))

theorem cmp_stop (a b : List Nat) (n : Nat) (last : { i : Nat // i < n }) (rest : List { i : Nat // i < n }) : ∀ (m : Nat) (h : m ≤ n) (ini : List { i : Nat // i < n }),
    ini ++ last :: rest = downA n m h → (∀ p ∈ ini, a[p.1]?.getD 0 = b[p.1]?.getD 0) → a[last.1]?.getD 0 ≠ b[last.1]?.getD 0 → cmpTop a b m = if a[last.1]?.getD 0 < b[last.1]?.getD 0 then -1 else 1
  | 0, _, ini, e, _, _ => by simp [downA] at e
  | m + 1, h, [], e, _, hne => by
    rw [downA] at e
    simp only [List.nil_append, List.cons.injEq] at e
    rw [e.1]
    rw [e.1] at hne
    dsimp only at hne ⊢
    rw [cmpTop]
    by_cases hlt : a[m]?.getD 0 < b[m]?.getD 0
    · rw [if_pos hlt, if_pos hlt]
    · rw [if_neg hlt, if_neg hlt, if_pos (by omega)]
  | m + 1, h, p :: ini, e, hp, hne => by
    rw [downA] at e
    simp only [List.cons_append, List.cons.injEq] at e
    have h1 := hp p (by simp)
    rw [e.1] at h1
    dsimp only at h1
    rw [cmpTop, if_neg (by omega), if_neg (by omega)]
    exact cmp_stop a b n last rest m (by omega) ini e.2 (fun q hq => hp q (by simp [hq])) hne

attribute [local go_sem] Oper.semAt_some
set_option maxRecDepth 100000 in
set_option maxHeartbeats 2000000 in
theorem compare_any (A1 A2 : Option Addr) (l1 l2 : List Nat) (c1 c2 : Nat) (w : World) (hs1 : Sl w A1 l1 c1) (hs2 : Sl w A2 l2 c2) :
    Calls Try.prog 82 #[.slice A1 l1.length c1, .slice A2 l2.length c2] w fun e w' => e = .returned (.int .i64 (cmpL l1 l2)) ∧ Below w.heap.size w w' := by
  refine (callsIn_wide (n := 5)).1 ?_
  have Hs1 := Lib.hid hs1
  have Hs2 := Lib.hid hs2
  clear hs1 hs2
  by_cases hl : l1.length = l2.length
  · have Hl := Lib.hid hl
    rw [← hl]
    clear hl
    refine callsIn_of_wp_marks Try.func82 rfl trivial ?_ rfl
    simp only [Try.ntmps82, List.size_toArray, List.length_cons, List.length_nil, Nat.reduceAdd, Nat.reduceSub, Array.replicate_succ, Array.replicate_zero, List.push_toArray, List.append_toArray, List.nil_append, List.cons_append]
    gi_wp2_with (refine ⟨trivial, ?_⟩; gi_at_call 95; refine (down_in _ _ trivial rfl _ _ _ _).mono ?_; rintro e w' ⟨rfl, rfl⟩)
    have Q : Hid ((((w.alloc (.cells #[.slice A2 l1.length c2] 22)).alloc (.cells #[.int .i64 0] 3)).alloc (.cells #[.slice A1 l1.length c1] 22)).cell? ⟨w.heap.size + 1 + 1, 0, none⟩ = some (.slice A1 l1.length c1)) := by unfold Hid; go_simp
    have Q2 : Hid ((((w.alloc (.cells #[.slice A2 l1.length c2] 22)).alloc (.cells #[.int .i64 0] 3)).alloc (.cells #[.slice A1 l1.length c1] 22)).cell? ⟨w.heap.size, 0, none⟩ = some (.slice A2 l1.length c2)) := by unfold Hid; go_simp
    have Q3 : Hid ((((w.alloc (.cells #[.slice A2 l1.length c2] 22)).alloc (.cells #[.int .i64 0] 3)).alloc (.cells #[.slice A1 l1.length c1] 22)).cell? ⟨w.heap.size + 1, 0, none⟩ = some (.int .i64 0)) := by unfold Hid; go_simp
    have Q4 : Hid ((((w.alloc (.cells #[.slice A2 l1.length c2] 22)).alloc (.cells #[.int .i64 0] 3)).alloc (.cells #[.slice A1 l1.length c1] 22)).frozen? ⟨w.heap.size + 1, 0, none⟩ = false) := by unfold Hid; go_simp
    have Hs1' := Lib.hid (((Hs1.out.alloc (.cells #[.slice A2 l1.length c2] 22)).alloc (.cells #[.int .i64 0] 3)).alloc (.cells #[.slice A1 l1.length c1] 22))
    have Hs2' := Lib.hid (((Hs2.out.alloc (.cells #[.slice A2 l1.length c2] 22)).alloc (.cells #[.int .i64 0] 3)).alloc (.cells #[.slice A1 l1.length c1] 22))
    have hB0 := blw3 w (.cells #[.slice A2 l1.length c2] 22) (.cells #[.int .i64 0] 3) (.cells #[.slice A1 l1.length c1] 22)
    have hsz : (((w.alloc (.cells #[.slice A2 l1.length c2] 22)).alloc (.cells #[.int .i64 0] 3)).alloc (.cells #[.slice A1 l1.length c1] 22)).heap.size = w.heap.size + 3 := by simp
    generalize ((w.alloc (.cells #[.slice A2 l1.length c2] 22)).alloc (.cells #[.int .i64 0] 3)).alloc (.cells #[.slice A1 l1.length c1] 22) = W0 at *
    have HB0 := Lib.hid hB0
    clear hB0
    refine wpIn_rangeFunc_ownG rfl (by omega) (gf := 101) (lb := #[.pointer (some ⟨w.heap.size + 1 + 1, 0, none⟩)]) rfl trivial (enters_of Try.func101 (by kernel_rfl) rfl)
      (down1_below Fence.wide 4 trivial rfl (by omega) (w.heap.size + 1 + 1) c1 A1 l1 W0 Hs1'.out Q.out) belowK_t (belowK_b (Nat.le_refl _)) (Below.refl _ _) (fun _ => rfl)
      (fun pre W => ((∀ p ∈ pre, l1[p.1]?.getD 0 = l2[p.1]?.getD 0) ∧ W.cell? ⟨w.heap.size + 1, 0, none⟩ = some (.int .i64 0) ∧ W.frozen? ⟨w.heap.size + 1, 0, none⟩ = false) ∧ Below W0.heap.size W0 W)
      (fun c pre W => (c = .ret ∧ ∃ ini last, pre = ini ++ [last] ∧ (∀ p ∈ ini, l1[p.1]?.getD 0 = l2[p.1]?.getD 0) ∧ l1[last.1]?.getD 0 ≠ l2[last.1]?.getD 0 ∧ W.cell? ⟨w.heap.size + 1, 0, none⟩ = some (.int .i64 (if l1[last.1]?.getD 0 < l2[last.1]?.getD 0 then -1 else 1))) ∧ Below w.heap.size w W)
      (OwnFrom.and (Own.from (fun s A B row hs hg hr => ⟨hs.1, cell_kept hs.2.1 hg hr, (frozen_kept hs.2.1 hg hr).trans hs.2.2⟩) _) (ownFrom_below (Nat.le_refl _) (Nat.le_refl _)))
      (fun c => OwnFrom.and (Own.from (fun s A B row hs hg hr => by obtain ⟨hc, ini, last, e1, e2, e3, e4⟩ := hs; exact ⟨hc, ini, last, e1, e2, e3, cell_kept e4 hg hr⟩) _) (ownFrom_below (Nat.le_refl _) (by omega)))
      ⟨⟨by simp, Q3.out, Q4.out⟩, Below.refl _ _⟩
      (fun x => { tmps := #[.slice A1 l1.length c1, .slice A2 l1.length c2, undef, .pointer (some ⟨w.heap.size, 0, none⟩), .pointer (some ⟨w.heap.size + 1, 0, none⟩), .int .i64 (x.1 : Int), .int .u32 (l1[x.1]?.getD 0 : Nat), .slice A1 l1.length c1, .int .i64 l1.length, .slice A2 l1.length c2, .int .i64 l1.length, .bool false, undef, undef, undef, undef, undef, .slice A1 l1.length c1,
        .func (.func 101) #[] #[.pointer (some ⟨w.heap.size + 1 + 1, 0, none⟩)], .int .i64 (x.1 : Int), .int .u32 (l1[x.1]?.getD 0 : Nat), undef, undef, undef, undef, undef, undef, undef, undef, undef, undef, undef, undef], defers := [] }) ?assign ?body ?done ?stop
    case assign =>
      intro l x W K hK
      simp only [encD]
      gi_wp2
      exact hK
    case body =>
      rintro l pre x W ⟨⟨hp, hcr, hfr⟩, hB⟩ _
      have q2 := kept_cell hB Q2.out
      obtain ⟨b, o, rfl, hx⟩ := (Hs2'.out.below hB).rd.at_ (k := x.1) (by have := x.2; rw [← Hl.out]; exact this)
      have hx1 := x.2
      have HB := Lib.hid hB
      have Hp := Lib.hid hp
      clear hB hp
      have ex : l1[x.1]?.getD 0 = l1[x.1] := by rw [List.getElem?_eq_getElem x.2]; rfl
      have Ex := Lib.hid ex
      clear ex
      gi_wp2
      · have hlt : l1[x.1] < l2[x.1]?.getD 0 := by assumption
        exact ⟨(KeepsOthers.setCell _ _ _).from _, ⟨rfl, pre, x, rfl, Hp.out, by rw [Ex.out]; omega, by rw [Ex.out, if_pos hlt]; exact World.cell?_setCell_same' _ _ _ (by rw [hcr]; rfl)⟩, (HB0.out.trans (HB.out.mono (by omega))).setCell (p := ⟨w.heap.size + 1, 0, none⟩) (by simp) _⟩
      · have hlt : ¬ l1[x.1] < l2[x.1]?.getD 0 := by assumption
        have hgt : l2[x.1]?.getD 0 < l1[x.1] := by assumption
        exact ⟨(KeepsOthers.setCell _ _ _).from _, ⟨rfl, pre, x, rfl, Hp.out, by rw [Ex.out]; omega, by rw [Ex.out, if_neg hlt]; exact World.cell?_setCell_same' _ _ _ (by rw [hcr]; rfl)⟩, (HB0.out.trans (HB.out.mono (by omega))).setCell (p := ⟨w.heap.size + 1, 0, none⟩) (by simp) _⟩
      · have hlt : ¬ l1[x.1] < l2[x.1]?.getD 0 := by assumption
        have hgt : ¬ l2[x.1]?.getD 0 < l1[x.1] := by assumption
        exact ⟨KeepsFrom.refl _ _, Below.refl _ _, ⟨fun p hp' => (List.mem_append.1 hp').elim (Hp.out p) (fun e => by simp only [List.mem_singleton] at e; subst e; rw [Ex.out]; omega), hcr, hfr⟩, HB.out⟩
    case done =>
      rintro D ys W hD rfl ⟨⟨hp, hcr, hfr⟩, hB⟩ hK
      have hr : cmpL l1 l2 = 0 := by rw [cmpL, if_pos Hl.out]; exact cmp_done l1 l2 _ _ _ hp
      have Hr := Lib.hid hr
      have HB := Lib.hid (HB0.out.trans (hB.mono (by omega)))
      clear hp hr hB
      gi_wp2
      have hK' := (KeepsOthers.setCell W ⟨w.heap.size + 1, 0, none⟩ (.int .i64 0)).same D _ hK rfl
      refine ⟨by simp, .inl ⟨_, _, rfl, run_takeDeferred hK', ?_⟩⟩
      have hc5 := cell_kept (World.cell?_setCell_same' W ⟨w.heap.size + 1, 0, none⟩ (.int .i64 0) (by rw [hcr]; rfl)) (grownBy_putObj' _ D (.deferred none)) (fun r e => by cases e; exact ⟨_, hK', rfl⟩)
      refine ⟨.int .i64 0, ?_, by rw [Hr.out], (HB.out.setCell (p := ⟨w.heap.size + 1, 0, none⟩) (by simp) _).trans (belowK_b (w := w) (Nat.le_refl _) _ D _ _ (by omega) hK' rfl rfl)⟩
      simp [results, Try.f82, go_sem, hc5]
    case stop =>
      rintro D c pre W hD ⟨rest, hrest⟩ ⟨⟨rfl, ini, last, rfl, hp, hne, hcr⟩, hB⟩ hK
      have hr : cmpL l1 l2 = if l1[last.1]?.getD 0 < l2[last.1]?.getD 0 then -1 else 1 := by
        rw [cmpL, if_pos Hl.out]
        exact cmp_stop l1 l2 l1.length last rest l1.length (Nat.le_refl _) ini (by have h := hrest; simp only [List.append_assoc, List.cons_append, List.nil_append] at h; exact h) hp hne
      generalize (if l1[last.1]?.getD 0 < l2[last.1]?.getD 0 then (-1 : Int) else 1) = z at *
      have Hr := Lib.hid hr
      have HB := Lib.hid hB
      clear hp hr hB hne hrest
      gi_wp2
      refine ⟨by simp, .inl ⟨_, _, rfl, run_takeDeferred hK, ?_⟩⟩
      have hc5 := cell_kept hcr (grownBy_putObj' _ D (.deferred none)) (fun r e => by cases e; exact ⟨_, hK, rfl⟩)
      refine ⟨.int .i64 z, ?_, by rw [Hr.out], HB.out.trans (belowK_b (w := w) (Nat.le_refl _) W D _ _ (by omega) hK rfl rfl)⟩
      simp [results, Try.f82, go_sem, hc5]
  · have Hl : Hid (¬ l1.length = l2.length) := hl
    have h1 : ((l1.length : Int) != l2.length) = true := by rw [bne_iff_ne]; omega
    by_cases hlt : l1.length < l2.length
    · have hr : cmpL l1 l2 = -1 := by rw [cmpL, if_neg hl, if_pos hlt]
      rw [hr]
      clear hr hl
      refine callsIn_wide.2 ?_
      go_enter Try.func82, Try.ntmps82
      go_wp2_with fail
      exact bodyPost_ret (v := .int .i64 (-1)) (by simp [results, Try.results82, go_sem]) rfl ⟨rfl, blw2 _ _ _⟩
    · have hr : cmpL l1 l2 = 1 := by rw [cmpL, if_neg hl, if_neg hlt]
      rw [hr]
      clear hr hl
      refine callsIn_wide.2 ?_
      go_enter Try.func82, Try.ntmps82
      go_wp2_with fail
      exact bodyPost_ret (v := .int .i64 1) (by simp [results, Try.results82, go_sem]) rfl ⟨rfl, blw2 _ _ _⟩

end Go.Proofs.Ythlfidbhldbedaa

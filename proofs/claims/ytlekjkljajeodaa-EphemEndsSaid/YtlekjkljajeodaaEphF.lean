import Derived.Test.YtlekjkljajeodaaEphA
import Derived.Test.YtlekjkljajeodaaW26
/- Walks: ephem's find. -/
namespace Go.Proofs.Ytlekjkljajeodaa
open Go.RowKit Go.Shelf
attribute [local go_sem ↓] Go.wp_at_zero Go.wp_at_succ
attribute [local go_sem] Oper.semAt_some
theorem blk_cells {B g : Nat} {W W' : World} {row : Option Nat} {ty : TypeId} {xs : Array Value} (h : BlkV W g ty xs) (hg : W.grownBy W' row) (hr : ∀ r, row = some r → B ≤ r ∧ ∃ o : Obj, W.heap[r]? = some o ∧ o.isCells = false) : BlkV W' g ty xs :=
  (hg.block g h.lt (fun e => by obtain ⟨-, o, h1, h2⟩ := hr g e.symm; unfold BlkV at h; rw [h] at h1; cases h1; cases h2)).trans h

section
variable {w w' : World} {g g' b : Nat} {ty : TypeId} {a0 a1 a2 a3 a4 : Value}
theorem BlkV.put5 (h : BlkV w g ty #[a0, a1, a2, a3, a4]) (x y z u v : Value) : BlkV (((((w.setCell ⟨g, 0, none⟩ x).setCell ⟨g, 1, none⟩ y).setCell ⟨g, 2, none⟩ z).setCell ⟨g, 3, none⟩ u).setCell ⟨g, 4, none⟩ v) g ty #[x, y, z, u, v] :=
  ((((h.put 0 x rfl).put 1 y rfl).put 2 z rfl).put 3 u rfl).put 4 v rfl

theorem BlkV.far5 {cs : Array Value} (h : BlkV w g ty cs) (hg : g ≠ g') (x y z u v : Value) : BlkV (((((w.setCell ⟨g', 0, none⟩ x).setCell ⟨g', 1, none⟩ y).setCell ⟨g', 2, none⟩ z).setCell ⟨g', 3, none⟩ u).setCell ⟨g', 4, none⟩ v) g ty cs :=
  ((((h.far (p := ⟨g', 0, none⟩) hg x).far (p := ⟨g', 1, none⟩) hg y).far (p := ⟨g', 2, none⟩) hg z).far (p := ⟨g', 3, none⟩) hg u).far (p := ⟨g', 4, none⟩) hg v

theorem below_set5 {a : World} (h : Below b a w) (hg : b ≤ g) (x y z u v : Value) : Below b a (((((w.setCell ⟨g, 0, none⟩ x).setCell ⟨g, 1, none⟩ y).setCell ⟨g, 2, none⟩ z).setCell ⟨g, 3, none⟩ u).setCell ⟨g, 4, none⟩ v) :=
  ((((h.setCell (p := ⟨g, 0, none⟩) hg x).setCell (p := ⟨g, 1, none⟩) hg y).setCell (p := ⟨g, 2, none⟩) hg z).setCell (p := ⟨g, 3, none⟩) hg u).setCell (p := ⟨g, 4, none⟩) hg v

theorem keeps_set6 (w : World) (g g' : Nat) (x y z u v r : Value) : KeepsOthers w ((((((w.setCell ⟨g, 0, none⟩ x).setCell ⟨g, 1, none⟩ y).setCell ⟨g, 2, none⟩ z).setCell ⟨g, 3, none⟩ u).setCell ⟨g, 4, none⟩ v).setCell ⟨g', 0, none⟩ r) :=
  (((((KeepsOthers.setCell _ _ _).trans (KeepsOthers.setCell _ _ _)).trans (KeepsOthers.setCell _ _ _)).trans (KeepsOthers.setCell _ _ _)).trans (KeepsOthers.setCell _ _ _)).trans (KeepsOthers.setCell _ _ _)

end
theorem BlkV.putD {w : World} {g D : Nat} {ty : TypeId} {xs : Array Value} {o : Obj} (h : BlkV w g ty xs) (hD : w.heap[D]? = some o) (o' : Obj) (ho : o.isCells = false) : BlkV (w.putObj D o') g ty xs :=
  blk_cells (B := 0) h (grownBy_putObj' w D o') (fun r e => by cases e; exact ⟨Nat.zero_le _, o, hD, ho⟩)

theorem below_mono' {n : Nat} {a b c : World} (h : Below n a b) (k : Below n b c) : Below n a c := h.trans k

/-- The segment of a time, or the error. -/
noncomputable def findS (bs : List BG) (i t : Int) : SG × Int := if hasE bs i = 0 then match segOf (getV bs i).ss t with | some s => (s, 0) | none => (zS, 16) else (zS, hasE bs i)

theorem findS_bad {bs : List BG} {i t : Int} (h : hasE bs i ≠ 0) : findS bs i t = (zS, hasE bs i) := if_neg h

theorem findS_none {bs : List BG} {i t : Int} (h : hasE bs i = 0) (h2 : segOf (getV bs i).ss t = none) : findS bs i t = (zS, 16) := by unfold findS; rw [if_pos h, h2]

theorem findS_some {bs : List BG} {i t : Int} {s : SG} (h : hasE bs i = 0) (h2 : segOf (getV bs i).ss t = some s) : findS bs i t = (s, 0) := by unfold findS; rw [if_pos h, h2]

theorem inR_inS (t : Int) : inR t t = inS t := by funext s; rfl

theorem filt_none {ss : List SG} {t : Int} (h : [] = ss.filter (inR t t)) : segOf ss t = none := by
  unfold segOf; rw [← List.head?_filter, ← inR_inS, ← h]; rfl

theorem filt_some {ss : List SG} {t : Int} {s : SG} (h : ∃ rest, [s] ++ rest = ss.filter (inR t t)) : segOf ss t = some s := by
  obtain ⟨r, h⟩ := h
  unfold segOf; rw [← List.head?_filter, ← inR_inS, ← h]; rfl

set_option maxRecDepth 100000 in
set_option maxHeartbeats 8000000 in
theorem efind_any (bs : List BG) (A : Option Addr) (c B : Nat) (i t : Int) (w : World) (hs : SlB w B A bs c) :
    Calls Try.prog 17 #[.agg #[.slice A bs.length c], .int .i64 i, .int .i64 t] w fun e w' => e = .returned (.tuple #[.agg #[.int .i64 (findS bs i t).1.F, .int .i64 (findS bs i t).1.T, .slice (findS bs i t).1.A0 (findS bs i t).1.l0.length (findS bs i t).1.c0, .slice (findS bs i t).1.A1 (findS bs i t).1.l1.length (findS bs i t).1.c1, .slice (findS bs i t).1.A2 (findS bs i t).1.l2.length (findS bs i t).1.c2], .int .i64 (findS bs i t).2]) ∧ Below w.heap.size w w' := by
  have S := Lib.hid hs
  clear hs
  by_cases h0 : hasE bs i = 0
  · have OB := Lib.hid (OkB.get S.out i)
    have F1 : Hid (∀ s, segOf (getV bs i).ss t = some s → findS bs i t = (s, 0)) := fun s h => findS_some h0 h
    have F2 : Hid (segOf (getV bs i).ss t = none → findS bs i t = (zS, 16)) := fun h => findS_none h0 h
    refine (callsIn_wide (n := 5)).1 ?_
    refine callsIn_of_wp_marks Try.func17 rfl trivial ?_ rfl
    refine wpIn_wide.2 ?_
    simp only [Try.ntmps17, List.size_toArray, List.length_cons, List.length_nil, Nat.reduceAdd, Nat.reduceSub, Array.replicate_succ, Array.replicate_zero, List.push_toArray, List.append_toArray, List.nil_append, List.cons_append]
    go_wp2_with (fail)
    generalize hwz : ((w.alloc (.cells #[.slice A bs.length c] 24)).alloc (.cells #[.int .i64 0, .int .i64 0, .slice none 0 0, .slice none 0 0, .slice none 0 0] 31)).alloc (.cells #[.int .i64 0] 39) = wz at *
    have KE : Hid (BlkV wz w.heap.size 24 #[.slice A bs.length c]) := by rw [← hwz]; exact ((BlkV.fresh rfl _ _).alloc _).alloc _
    have KS : Hid (BlkV wz (w.heap.size + 1) 31 #[.int .i64 0, .int .i64 0, .slice none 0 0, .slice none 0 0, .slice none 0 0]) := by rw [← hwz]; exact (BlkV.fresh (by simp) _ _).alloc _
    have KR : Hid (BlkV wz (w.heap.size + 1 + 1) 39 #[.int .i64 0]) := by rw [← hwz]; exact BlkV.fresh (by simp) _ _
    have HB : Hid (Below w.heap.size w wz) := by rw [← hwz]; exact below_mono (below_mono (blw1 _ _) (blw1 _ _)) (blw1 _ _)
    clear hwz
    refine (eget_any bs A c B i wz (S.out.below HB.out)).mono ?_
    rintro e w1 ⟨rfl, hb⟩
    replace KE := Lib.hid (KE.out.keep hb)
    replace KS := Lib.hid (KS.out.keep hb)
    replace KR := Lib.hid (KR.out.keep hb)
    replace HB := Lib.hid (below_mono HB.out hb)
    clear hb
    rw [h0]
    generalize getV bs i = y at *
    clear h0
    go_wp2_with fail
    generalize hwx : w1.alloc (.cells #[.string ⟨y.nm.toArray⟩, .int .i64 y.gm, .int .i64 y.rd, .slice y.A y.ss.length y.c] 34) = wx at *
    replace KS : Hid (BlkV wx (w.heap.size + 1) 31 #[.int .i64 0, .int .i64 0, .slice none 0 0, .slice none 0 0, .slice none 0 0]) := by rw [← hwx]; exact KS.out.alloc _
    replace KR : Hid (BlkV wx (w.heap.size + 1 + 1) 39 #[.int .i64 0]) := by rw [← hwx]; exact KR.out.alloc _
    replace HB : Hid (Below w.heap.size w wx) := by rw [← hwx]; exact below_mono HB.out (blw1 _ _)
    clear hwx
    refine (callsIn_wide.1 (during_in Fence.wide 5 trivial rfl y t t wx)).mono ?_
    rintro e w' ⟨rfl, rfl⟩
    go_wp2_with fail
    have Q1 : Hid (BlkV (((wx.alloc (.cells #[.string ⟨y.nm.toArray⟩, .int .i64 y.gm, .int .i64 y.rd, .slice y.A y.ss.length y.c] 34)).alloc (.cells #[.int .i64 t] 2)).alloc (.cells #[.int .i64 t] 2)) wx.heap.size 34 #[.string ⟨y.nm.toArray⟩, .int .i64 y.gm, .int .i64 y.rd, .slice y.A y.ss.length y.c]) := ((BlkV.fresh rfl _ _).alloc _).alloc _
    have Q2 : Hid ((((wx.alloc (.cells #[.string ⟨y.nm.toArray⟩, .int .i64 y.gm, .int .i64 y.rd, .slice y.A y.ss.length y.c] 34)).alloc (.cells #[.int .i64 t] 2)).alloc (.cells #[.int .i64 t] 2)).cell? ⟨wx.heap.size + 2, 0, none⟩ = some (.int .i64 t)) := (BlkV.fresh (by simp) _ _).at_ 0 rfl
    have Q3 : Hid ((((wx.alloc (.cells #[.string ⟨y.nm.toArray⟩, .int .i64 y.gm, .int .i64 y.rd, .slice y.A y.ss.length y.c] 34)).alloc (.cells #[.int .i64 t] 2)).alloc (.cells #[.int .i64 t] 2)).cell? ⟨wx.heap.size + 1, 0, none⟩ = some (.int .i64 t)) := ((BlkV.fresh (by simp) _ _).alloc _).at_ 0 rfl
    have HB0 : Hid (Below w.heap.size w (((wx.alloc (.cells #[.string ⟨y.nm.toArray⟩, .int .i64 y.gm, .int .i64 y.rd, .slice y.A y.ss.length y.c] 34)).alloc (.cells #[.int .i64 t] 2)).alloc (.cells #[.int .i64 t] 2))) := below_mono (below_mono (below_mono HB.out (blw1 _ _)) (blw1 _ _)) (blw1 _ _)
    have SS : Hid (SlS (((wx.alloc (.cells #[.string ⟨y.nm.toArray⟩, .int .i64 y.gm, .int .i64 y.rd, .slice y.A y.ss.length y.c] 34)).alloc (.cells #[.int .i64 t] 2)).alloc (.cells #[.int .i64 t] 2)) B y.A y.ss y.c) := (OB.out.below HB0.out).sl
    have KS0 : Hid (BlkV (((wx.alloc (.cells #[.string ⟨y.nm.toArray⟩, .int .i64 y.gm, .int .i64 y.rd, .slice y.A y.ss.length y.c] 34)).alloc (.cells #[.int .i64 t] 2)).alloc (.cells #[.int .i64 t] 2)) (w.heap.size + 1) 31 #[.int .i64 0, .int .i64 0, .slice none 0 0, .slice none 0 0, .slice none 0 0]) := ((KS.out.alloc _).alloc _).alloc _
    have KR0 : Hid (BlkV (((wx.alloc (.cells #[.string ⟨y.nm.toArray⟩, .int .i64 y.gm, .int .i64 y.rd, .slice y.A y.ss.length y.c] 34)).alloc (.cells #[.int .i64 t] 2)).alloc (.cells #[.int .i64 t] 2)) (w.heap.size + 1 + 1) 39 #[.int .i64 0]) := ((KR.out.alloc _).alloc _).alloc _
    generalize hW0 : ((wx.alloc (.cells #[.string ⟨y.nm.toArray⟩, .int .i64 y.gm, .int .i64 y.rd, .slice y.A y.ss.length y.c] 34)).alloc (.cells #[.int .i64 t] 2)).alloc (.cells #[.int .i64 t] 2) = W0 at *
    clear hW0
    refine (wpIn_wide (n := 5)).1 ?_
    refine wpIn_rangeFunc_ownH rfl (by omega) (gf := 42) (lb := #[.pointer (some ⟨wx.heap.size, 0, none⟩), .pointer (some ⟨wx.heap.size + 2, 0, none⟩), .pointer (some ⟨wx.heap.size + 1, 0, none⟩)]) rfl trivial (enters_of Try.func42 (by kernel_rfl) rfl)
      (during1_in Fence.wide 4 trivial rfl (by omega) wx.heap.size (wx.heap.size + 2) (wx.heap.size + 1) y t t B W0 SS.out.len (Below W0.heap.size) (Below W0.heap.size W0) (fun _ h => h) (fun _ _ h k => h.trans k) (fun _ o h => below_mono h (blw1 _ o)) (fun _ h => ⟨Q1.out.keep h, kept_cell h Q2.out, kept_cell h Q3.out, SS.out.below h⟩)) belowK_t (belowK_b (Nat.le_refl _)) (Below.refl _ _) (fun _ => rfl)
      (fun pre W => pre = [] ∧ Below W0.heap.size W0 W)
      (fun cd pre W => (cd = .ret ∧ ∃ s, pre = [s] ∧ BlkV W (w.heap.size + 1) 31 #[.int .i64 s.F, .int .i64 s.T, .slice s.A0 s.l0.length s.c0, .slice s.A1 s.l1.length s.c1, .slice s.A2 s.l2.length s.c2] ∧ BlkV W (w.heap.size + 1 + 1) 39 #[.int .i64 0]) ∧ Below w.heap.size w W)
      (fun pre W W' row h hg hr => ⟨h.1, ownFrom_below (Nat.le_refl _) (Nat.le_refl _) pre W W' row h.2 hg hr⟩)
      (fun cd => OwnFrom.and (fun pre W W' row h hg hr => by obtain ⟨h1, s, h2, h3, h4⟩ := h; exact ⟨h1, s, h2, own_block h3 (by have := KS0.out.lt; omega) hg hr, own_block h4 (by have := KR0.out.lt; omega) hg hr⟩) (ownFrom_below (Nat.le_refl _) (by have := HB0.out.size; omega)))
      ⟨rfl, Below.refl _ _⟩
      (fun s a' W => ∃ g, a' = { tmps := #[.agg #[.slice A bs.length c], .int .i64 i, .int .i64 t, .pointer (some ⟨w.heap.size, 0, none⟩), undef, undef, .pointer (some ⟨w.heap.size + 1, 0, none⟩), .pointer (some ⟨w.heap.size + 1 + 1, 0, none⟩), .pointer (some ⟨w1.heap.size, 0, none⟩), .int .i64 0, .pointer (some ⟨g, 0, none⟩), .tuple #[.agg #[.string ⟨y.nm.toArray⟩, .int .i64 y.gm, .int .i64 y.rd, .slice y.A y.ss.length y.c], .int .i64 0], .agg #[.slice A bs.length c], .int .i64 i, .tuple #[.agg #[.string ⟨y.nm.toArray⟩, .int .i64 y.gm, .int .i64 y.rd, .slice y.A y.ss.length y.c], .int .i64 0], .agg #[.string ⟨y.nm.toArray⟩, .int .i64 y.gm, .int .i64 y.rd, .slice y.A y.ss.length y.c], .int .i64 0, .int .i64 0, .bool false, undef, undef, .agg #[.string ⟨y.nm.toArray⟩, .int .i64 y.gm, .int .i64 y.rd, .slice y.A y.ss.length y.c], .int .i64 t, .int .i64 t, .func (.func 42) #[] #[.pointer (some ⟨wx.heap.size, 0, none⟩), .pointer (some ⟨wx.heap.size + 2, 0, none⟩), .pointer (some ⟨wx.heap.size + 1, 0, none⟩)], .agg #[.int .i64 s.F, .int .i64 s.T, .slice s.A0 s.l0.length s.c0, .slice s.A1 s.l1.length s.c1, .slice s.A2 s.l2.length s.c2], .agg #[.int .i64 (max s.F t), .int .i64 (min s.T t)], undef, undef], defers := [] } ∧ BlkV W g 31 #[.int .i64 s.F, .int .i64 s.T, .slice s.A0 s.l0.length s.c0, .slice s.A1 s.l1.length s.c1, .slice s.A2 s.l2.length s.c2] ∧ W0.heap.size ≤ g) (fun s a' _ W W' row h hg hr => by obtain ⟨g, e, k, l⟩ := h; exact ⟨g, e, blk_cells k hg hr, l⟩) ?assign ?body ?done ?stop
    case assign =>
      rintro l pre s W K ⟨hp, hB⟩ hK
      simp only [encG]
      gi_wp2
      exact hK _ _ ((KeepsOthers.alloc W _).from _) (blw1 W _ |>.mono hB.size) ⟨hp, below_mono hB (blw1 _ _)⟩ ⟨W.heap.size, rfl, BlkV.fresh rfl _ _, hB.size⟩
    case body =>
      rintro l pre s a' W _ _ ⟨rfl, hB⟩ ⟨g, rfl, kg, hg⟩ _
      have KG := Lib.hid kg
      clear kg
      have kg0 := KG.out.at_ 0 rfl
      have kg1 := KG.out.at_ 1 rfl
      have kg2 := KG.out.at_ 2 rfl
      have kg3 := KG.out.at_ 3 rfl
      have kg4 := KG.out.at_ 4 rfl
      have hlg := KG.out.lt
      have KSW := Lib.hid (KS0.out.keep hB)
      have KRW := Lib.hid (KR0.out.keep hB)
      have HBW := Lib.hid (below_mono HB0.out hB)
      clear hB
      have ks0 := KSW.out.at_ 0 rfl
      have ks1 := KSW.out.at_ 1 rfl
      have ks2 := KSW.out.at_ 2 rfl
      have ks3 := KSW.out.at_ 3 rfl
      have ks4 := KSW.out.at_ 4 rfl
      have kr0 := KRW.out.at_ 0 rfl
      have fs0 := KSW.out.frozen 0
      have fs1 := KSW.out.frozen 1
      have fs2 := KSW.out.frozen 2
      have fs3 := KSW.out.frozen 3
      have fs4 := KSW.out.frozen 4
      have fr0 := KRW.out.frozen 0
      have hls := KSW.out.lt
      have hlr := KRW.out.lt
      gi_wp2
      exact ⟨(keeps_set6 _ _ _ _ _ _ _ _ _).from _, ⟨rfl, s, rfl, (BlkV.put5 KSW.out _ _ _ _ _).far (by simp) _, BlkV.put (KRW.out.far5 (by simp) _ _ _ _ _) 0 _ rfl⟩, (below_set5 HBW.out (by omega) _ _ _ _ _).setCell (p := ⟨w.heap.size + 1 + 1, 0, none⟩) (by simp <;> omega) _⟩
    case done =>
      rintro D ys W hD hys ⟨rfl, hB⟩ hDf
      have E := Lib.hid (F2.out (filt_none hys))
      have KSW := Lib.hid (KS0.out.keep hB)
      have KRW := Lib.hid (KR0.out.keep hB)
      have HBW := Lib.hid (below_mono HB0.out hB)
      clear hB
      have ks0 := KSW.out.at_ 0 rfl
      have ks1 := KSW.out.at_ 1 rfl
      have ks2 := KSW.out.at_ 2 rfl
      have ks3 := KSW.out.at_ 3 rfl
      have ks4 := KSW.out.at_ 4 rfl
      have kr0 := KRW.out.at_ 0 rfl
      have fs0 := KSW.out.frozen 0
      have fs1 := KSW.out.frozen 1
      have fs2 := KSW.out.frozen 2
      have fs3 := KSW.out.frozen 3
      have fs4 := KSW.out.frozen 4
      have fr0 := KRW.out.frozen 0
      have hls := KSW.out.lt
      have hlr := KRW.out.lt
      gi_wp2
      show Code.wp _ _ _ _ _
      go_wp2
      refine ⟨by simp, .inl ⟨_, _, rfl, run_takeDeferred (((keeps_set6 _ _ _ _ _ _ _ _ _).same D _ hDf rfl)), ?_⟩⟩
      have HD : Hid (_ = _) := (keeps_set6 W (w.heap.size + 1) (w.heap.size + 1 + 1) (.int .i64 0) (.int .i64 0) (.slice none 0 0) (.slice none 0 0) (.slice none 0 0) (.int .i64 16)).same D _ hDf rfl
      have hp := belowK_b (w := w) (Nat.le_refl _) _ D _ (.deferred none) (by have := HB0.out.size; omega) HD.out rfl rfl
      have ksF := BlkV.putD ((KSW.out.put5 (.int .i64 0) (.int .i64 0) (.slice none 0 0) (.slice none 0 0) (.slice none 0 0)).far (p := ⟨w.heap.size + 1 + 1, 0, none⟩) (by simp) (.int .i64 16)) HD.out (.deferred none) rfl
      have krF := BlkV.putD ((KRW.out.far5 (g' := w.heap.size + 1) (by simp) (.int .i64 0) (.int .i64 0) (.slice none 0 0) (.slice none 0 0) (.slice none 0 0)).put 0 (.int .i64 16) rfl) HD.out (.deferred none) rfl
      have kf0 := ksF.at_ 0 rfl
      have kf1 := ksF.at_ 1 rfl
      have kf2 := ksF.at_ 2 rfl
      have kf3 := ksF.at_ 3 rfl
      have kf4 := ksF.at_ 4 rfl
      have kf5 := krF.at_ 0 rfl
      have hbF := below_mono' ((below_set5 HBW.out (show w.heap.size ≤ w.heap.size + 1 by omega) (.int .i64 0) (.int .i64 0) (.slice none 0 0) (.slice none 0 0) (.slice none 0 0)).setCell (p := ⟨w.heap.size + 1 + 1, 0, none⟩) (by simp <;> omega) (.int .i64 16)) hp
      clear hp ksF krF
      refine ⟨.tuple #[.agg #[.int .i64 0, .int .i64 0, .slice none 0 0, .slice none 0 0, .slice none 0 0], .int .i64 16], ?_, by rw [E.out] <;> rfl, hbF⟩
      simp [results, Try.f17, go_sem, kf0, kf1, kf2, kf3, kf4, kf5]
    case stop =>
      rintro D cd pre W hD hpre ⟨⟨rfl, s, rfl, k1, k2⟩, hB⟩ hDf
      have E := Lib.hid (F1.out s (filt_some hpre))
      have KSW := Lib.hid k1
      have KRW := Lib.hid k2
      have HBW := Lib.hid hB
      clear hB k1 k2 hpre
      have ks0 := KSW.out.at_ 0 rfl
      have ks1 := KSW.out.at_ 1 rfl
      have ks2 := KSW.out.at_ 2 rfl
      have ks3 := KSW.out.at_ 3 rfl
      have ks4 := KSW.out.at_ 4 rfl
      have kr0 := KRW.out.at_ 0 rfl
      have fs0 := KSW.out.frozen 0
      have fs1 := KSW.out.frozen 1
      have fs2 := KSW.out.frozen 2
      have fs3 := KSW.out.frozen 3
      have fs4 := KSW.out.frozen 4
      have fr0 := KRW.out.frozen 0
      have hls := KSW.out.lt
      have hlr := KRW.out.lt
      gi_wp2
      refine ⟨by simp, .inl ⟨_, _, rfl, run_takeDeferred hDf, ?_⟩⟩
      have HD : Hid (_ = _) := hDf
      have hp := belowK_b (w := w) (Nat.le_refl _) _ D _ (.deferred none) (by have := HB0.out.size; omega) HD.out rfl rfl
      have ksF := BlkV.putD (KSW.out) HD.out (.deferred none) rfl
      have krF := BlkV.putD (KRW.out) HD.out (.deferred none) rfl
      have kf0 := ksF.at_ 0 rfl
      have kf1 := ksF.at_ 1 rfl
      have kf2 := ksF.at_ 2 rfl
      have kf3 := ksF.at_ 3 rfl
      have kf4 := ksF.at_ 4 rfl
      have kf5 := krF.at_ 0 rfl
      have hbF := below_mono' (HBW.out) hp
      clear hp ksF krF
      refine ⟨.tuple #[.agg #[.int .i64 s.F, .int .i64 s.T, .slice s.A0 s.l0.length s.c0, .slice s.A1 s.l1.length s.c1, .slice s.A2 s.l2.length s.c2], .int .i64 0], ?_, by rw [E.out] <;> rfl, hbF⟩
      simp [results, Try.f17, go_sem, kf0, kf1, kf2, kf3, kf4, kf5]
  · have E := Lib.hid (findS_bad (t := t) h0)
    have E2 := Lib.hid (getV_err h0)
    go_enter Try.func17, Try.ntmps17
    go_wp2_with (fail)
    generalize hwz : ((w.alloc (.cells #[.slice A bs.length c] 24)).alloc (.cells #[.int .i64 0, .int .i64 0, .slice none 0 0, .slice none 0 0, .slice none 0 0] 31)).alloc (.cells #[.int .i64 0] 39) = wz at *
    have KE : Hid (BlkV wz w.heap.size 24 #[.slice A bs.length c]) := by rw [← hwz]; exact ((BlkV.fresh rfl _ _).alloc _).alloc _
    have KS : Hid (BlkV wz (w.heap.size + 1) 31 #[.int .i64 0, .int .i64 0, .slice none 0 0, .slice none 0 0, .slice none 0 0]) := by rw [← hwz]; exact (BlkV.fresh (by simp) _ _).alloc _
    have KR : Hid (BlkV wz (w.heap.size + 1 + 1) 39 #[.int .i64 0]) := by rw [← hwz]; exact BlkV.fresh (by simp) _ _
    have HB : Hid (Below w.heap.size w wz) := by rw [← hwz]; exact below_mono (below_mono (blw1 _ _) (blw1 _ _)) (blw1 _ _)
    clear hwz
    refine (eget_any bs A c B i wz (S.out.below HB.out)).mono ?_
    rintro e w1 ⟨rfl, hb⟩
    replace KE := Lib.hid (KE.out.keep hb)
    replace KS := Lib.hid (KS.out.keep hb)
    replace KR := Lib.hid (KR.out.keep hb)
    replace HB := Lib.hid (below_mono HB.out hb)
    clear hb
    rw [E2.out]
    clear E2 S
    generalize hasE bs i = x at *
    have t0 : (x != 0) = true := bne_iff_ne.2 h0
    clear h0
    go_upto_region 2 with fail
    generalize hwx : w1.alloc (.cells #[.string ⟨zB.nm.toArray⟩, .int .i64 zB.gm, .int .i64 zB.rd, .slice zB.A zB.ss.length zB.c] 34) = wx at *
    replace KS : Hid (BlkV wx (w.heap.size + 1) 31 #[.int .i64 0, .int .i64 0, .slice none 0 0, .slice none 0 0, .slice none 0 0]) := by rw [← hwx]; exact KS.out.alloc _
    replace KR : Hid (BlkV wx (w.heap.size + 1 + 1) 39 #[.int .i64 0]) := by rw [← hwx]; exact KR.out.alloc _
    replace HB : Hid (Below w.heap.size w wx) := by rw [← hwx]; exact below_mono HB.out (blw1 _ _)
    clear hwx
    have ks0 := KS.out.at_ 0 rfl
    have ks1 := KS.out.at_ 1 rfl
    have ks2 := KS.out.at_ 2 rfl
    have ks3 := KS.out.at_ 3 rfl
    have ks4 := KS.out.at_ 4 rfl
    have kr0 := KR.out.at_ 0 rfl
    have fs0 := KS.out.frozen 0
    have fs1 := KS.out.frozen 1
    have fs2 := KS.out.frozen 2
    have fs3 := KS.out.frozen 3
    have fs4 := KS.out.frozen 4
    have fr0 := KR.out.frozen 0
    have hls := KS.out.lt
    have hlr := KR.out.lt
    go_wp2
    exact bodyPost_ret (v := .tuple #[.agg #[.int .i64 0, .int .i64 0, .slice none 0 0, .slice none 0 0, .slice none 0 0], .int .i64 x]) (by simp [results, Try.results17, go_sem, ks0, ks1, ks2, ks3, ks4, kr0]) rfl ⟨by rw [E.out] <;> rfl, (below_set5 HB.out (by omega) _ _ _ _ _).setCell (p := ⟨w.heap.size + 1 + 1, 0, none⟩) (by simp <;> omega) _⟩

end Go.Proofs.Ytlekjkljajeodaa

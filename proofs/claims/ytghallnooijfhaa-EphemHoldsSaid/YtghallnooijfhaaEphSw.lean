import Derived.Test.YtghallnooijfhaaEphSm
import Derived.Test.YtghallnooijfhaaEph4
import Derived.Deep.RegionHeld
namespace Go.Proofs.Ytghallnooijfhaa
open Go.RowKit
attribute [local go_sem ↓] Go.wp_at_zero Go.wp_at_succ
/-- A whole number in a box of two cells, and its limbs. -/
structure WB (w : World) (g : Nat) (z : Int) (A : Option Addr) (c : Nat) : Prop where
  k : BlkV w g 57 #[.bool (wOf z).1, .slice A (wOf z).2.length c]
  s : Sl w A (wOf z).2 c

section
variable {w w' : World} {g g' : Nat} {z y : Int} {A A' : Option Addr} {c c' : Nat}
theorem WB.keep (h : WB w g z A c) (hb : Below w.heap.size w w') : WB w' g z A c := ⟨h.k.keep hb, h.s.below hb⟩

theorem sl_blk2 {l : List Nat} {t : TypeId} {a b : Value} (h : Sl w A l c) (k : BlkV w g t #[a, b]) (ha : ∀ n : Int, a ≠ .int .u32 n) (hb : ∀ n : Int, b ≠ .int .u32 n) (x x' : Value) : Sl ((w.setCell ⟨g, 0, none⟩ x).setCell ⟨g, 1, none⟩ x') A l c :=
  (h.setV (k.at_ 0 rfl) ha x).setV ((k.put 0 x rfl).at_ 1 rfl) hb x'

theorem WB.put (k : BlkV w g 57 #[.bool (wOf y).1, .slice A' (wOf y).2.length c']) (s : Sl w A (wOf z).2 c) : WB ((w.setCell ⟨g, 0, none⟩ (.bool (wOf z).1)).setCell ⟨g, 1, none⟩ (.slice A (wOf z).2.length c)) g z A c :=
  ⟨(k.put 0 _ rfl).put 1 _ rfl, sl_blk2 s k (fun n e => by cases e) (fun n e => by cases e) _ _⟩

end
theorem sl_blk4 {w : World} {g c : Nat} {A : Option Addr} {l : List Nat} {t : TypeId} {a b d e : Value} (h : Sl w A l c) (k : BlkV w g t #[a, b, d, e]) (ha : ∀ n : Int, a ≠ .int .u32 n) (hb : ∀ n : Int, b ≠ .int .u32 n) (hd : ∀ n : Int, d ≠ .int .u32 n) (he : ∀ n : Int, e ≠ .int .u32 n) (x y z u : Value) :
    Sl ((((w.setCell ⟨g, 0, none⟩ x).setCell ⟨g, 1, none⟩ y).setCell ⟨g, 2, none⟩ z).setCell ⟨g, 3, none⟩ u) A l c :=
  (((h.setV (k.at_ 0 rfl) ha x).setV ((k.put 0 x rfl).at_ 1 rfl) hb y).setV (((k.put 0 x rfl).put 1 y rfl).at_ 2 rfl) hd z).setV ((((k.put 0 x rfl).put 1 y rfl).put 2 z rfl).at_ 3 rfl) he u

/-- A fraction is put into a box. -/
theorem put_frac {w W : World} {g gw : Nat} {q : Rat} {z : Int} {A B A1 : Option Addr} {c d c1 : Nat} (k : BlkV W g 59 #[.bool false, .slice none 0 0, .bool false, .slice none 0 0]) (kw : WB W gw z A1 c1) (hne : gw ≠ g) (s : Sl W A (frQ q).1.2 c) (t : Sl W B (frQ q).2.2 d) (hb : Below w.heap.size w W) (hg : w.heap.size ≤ g) :
    BlkV ((((W.setCell ⟨g, 0, none⟩ (.bool (frQ q).1.1)).setCell ⟨g, 1, none⟩ (.slice A (frQ q).1.2.length c)).setCell ⟨g, 2, none⟩ (.bool (frQ q).2.1)).setCell ⟨g, 3, none⟩ (.slice B (frQ q).2.2.length d)) g 59 #[.bool (frQ q).1.1, .slice A (frQ q).1.2.length c, .bool (frQ q).2.1, .slice B (frQ q).2.2.length d] ∧
    BlkV ((((W.setCell ⟨g, 0, none⟩ (.bool (frQ q).1.1)).setCell ⟨g, 1, none⟩ (.slice A (frQ q).1.2.length c)).setCell ⟨g, 2, none⟩ (.bool (frQ q).2.1)).setCell ⟨g, 3, none⟩ (.slice B (frQ q).2.2.length d)) gw 57 #[.bool (wOf z).1, .slice A1 (wOf z).2.length c1] ∧
    Sl ((((W.setCell ⟨g, 0, none⟩ (.bool (frQ q).1.1)).setCell ⟨g, 1, none⟩ (.slice A (frQ q).1.2.length c)).setCell ⟨g, 2, none⟩ (.bool (frQ q).2.1)).setCell ⟨g, 3, none⟩ (.slice B (frQ q).2.2.length d)) A (frQ q).1.2 c ∧
    Sl ((((W.setCell ⟨g, 0, none⟩ (.bool (frQ q).1.1)).setCell ⟨g, 1, none⟩ (.slice A (frQ q).1.2.length c)).setCell ⟨g, 2, none⟩ (.bool (frQ q).2.1)).setCell ⟨g, 3, none⟩ (.slice B (frQ q).2.2.length d)) B (frQ q).2.2 d ∧
    Below w.heap.size w ((((W.setCell ⟨g, 0, none⟩ (.bool (frQ q).1.1)).setCell ⟨g, 1, none⟩ (.slice A (frQ q).1.2.length c)).setCell ⟨g, 2, none⟩ (.bool (frQ q).2.1)).setCell ⟨g, 3, none⟩ (.slice B (frQ q).2.2.length d)) :=
  ⟨(((k.put 0 _ rfl).put 1 _ rfl).put 2 _ rfl).put 3 _ rfl, (((kw.k.far (p := ⟨g, 0, none⟩) hne _).far (p := ⟨g, 1, none⟩) hne _).far (p := ⟨g, 2, none⟩) hne _).far (p := ⟨g, 3, none⟩) hne _,
    sl_blk4 s k (fun n e => by cases e) (fun n e => by cases e) (fun n e => by cases e) (fun n e => by cases e) _ _ _ _, sl_blk4 t k (fun n e => by cases e) (fun n e => by cases e) (fun n e => by cases e) (fun n e => by cases e) _ _ _ _,
    (((hb.setCell (p := ⟨g, 0, none⟩) hg _).setCell (p := ⟨g, 1, none⟩) hg _).setCell (p := ⟨g, 2, none⟩) hg _).setCell (p := ⟨g, 3, none⟩) hg _⟩

theorem swZ_next (l : List Int) (k : Nat) {m : Int} (h : m = (k : Int) * k * max (l.getD k 0) (-(l.getD k 0))) : swZ l (k + 1) = swZ l k + m := by
  subst h
  have e : max (l.getD k 0) (-(l.getD k 0)) = ((l.getD k 0).natAbs : Int) := by omega
  show swZ l k + ((k * k : Nat) : Int) * ((l.getD k 0).natAbs : Int) = _
  rw [e]
  push_cast
  rfl

/-- What sway's sum is multiplied with, and over what it is taken. -/
theorem sw_lim {k : Nat} {x : Int} (hk : k ≤ 5) (h1 : -1125899906842624 ≤ x) (h2 : x ≤ 1125899906842624) : 0 ≤ (k : Int) * k ∧ (k : Int) * k ≤ 25 ∧ 0 ≤ max x (-x) ∧ max x (-x) ≤ 1125899906842624 ∧ 0 ≤ (k : Int) * k * max x (-x) ∧ (k : Int) * k * max x (-x) ≤ 28147497671065600 := by
  have a : 0 ≤ (k : Int) * k := Int.mul_nonneg (by omega) (by omega)
  have b : (k : Int) * k ≤ 25 := by
    have : (k : Int) * k ≤ 5 * 5 := Int.mul_le_mul (by omega) (by omega) (by omega) (by omega)
    omega
  have c : 0 ≤ max x (-x) := by omega
  have d : max x (-x) ≤ 1125899906842624 := by omega
  have e : (k : Int) * k * max x (-x) ≤ 25 * 1125899906842624 := Int.mul_le_mul b d c (by omega)
  exact ⟨a, b, c, d, Int.mul_nonneg a c, by omega⟩

set_option maxRecDepth 100000 in
set_option maxHeartbeats 8000000 in
theorem esway_any (l : List Int) (A : Option Addr) (c B : Nat) (n long : Int) (w : World) (hl : SlI w B A l c) (h0 : listB l = true) (h6 : l.length ≤ 6) (n0 : 0 ≤ n) (n1 : n ≤ 2 * long) (l0 : 0 < long) (l1 : long ≤ 10000000000000000) :
    Calls Try.prog 26 #[.slice A l.length c, .int .i64 n, .int .i64 long] w fun e w' => e = .returned (.int .i64 (swI l n long)) ∧ Below w.heap.size w w' := by
  have S := Lib.hid hl
  have BD := Lib.hid (swZ_bd h0)
  have TB := Lib.hid (term_bd h0)
  have SI := Lib.hid (swI_bd h0 h6 n0 n1 l0)
  clear hl h0
  go_enter Try.func26, Try.ntmps26
  go_wp2_with fail
  have hF : Hid (Calls Try.prog 32 #[.int .i64 0] w (WRes1 (wOf (swZ l 0)) w)) := from_any 0 w (by decide) (by decide)
  refine hF.out.mono ?_
  rintro e w1 ⟨A1, c1, rfl, hs1, hb⟩
  dsimp only
  clear hF
  have B1 := Lib.hid hb
  have S1 := Lib.hid hs1
  clear hb hs1
  go_upto_region 2 with fail
  generalize hwx : w1.alloc (.cells #[.bool (wOf (swZ l 0)).1, .slice A1 (wOf (swZ l 0)).2.length c1] 57) = wx at *
  have K0 : Hid (WB wx w1.heap.size (swZ l 0) A1 c1) := by rw [← hwx]; exact ⟨BlkV.fresh rfl _ _, S1.out.alloc _⟩
  have B0 : Hid (Below w.heap.size w wx) := by rw [← hwx]; exact below_mono B1.out (blw1 _ _)
  have hg := B1.out.size
  clear hwx S1 B1
  generalize w1.heap.size = gw at *
  have S0 := Lib.hid (fun V (h : Below w.heap.size w V) => S.out.below h)
  clear S
  go_wp2
  go_loopw [19] (fun s19 wr => ∃ (k : Nat) (A1 : Option Addr) (c1 : Nat), k ≤ l.length ∧ s19 = .int .i64 k ∧ WB wr gw (swZ l k) A1 c1 ∧ Below w.heap.size w wr) (fun v _ => l.length - (intOf v).toNat)
  case atStart => exact ⟨0, A1, c1, Nat.zero_le _, rfl, K0.out, B0.out⟩
  case round =>
    clear K0 B0
    obtain ⟨k, A1, c1, hk, rfl, hK, hB⟩ := hrel
    have KW := Lib.hid hK
    have HB := Lib.hid hB
    clear hK hB
    have bd := BD.out k (by omega)
    by_cases hkl : k < l.length
    · have tk : decide ((k : Int) < (l.length : Int)) = true := decide_eq_true (by omega)
      obtain ⟨bb, oo, rfl, -, hx⟩ := (S0.out _ HB.out).atE hkl
      have tb := TB.out k
      obtain ⟨m, hm⟩ : ∃ m, m = (k : Int) * k * max (l.getD k 0) (-(l.getD k 0)) := ⟨_, rfl⟩
      have NX := Lib.hid (swZ_next l k hm)
      have lim := sw_lim (k := k) (by omega) tb.1 tb.2
      have bd2 := BD.out (k + 1) (by omega)
      rw [NX.out] at bd2
      generalize l.getD k 0 = x at *
      generalize swZ l k = z at *
      obtain ⟨q, hq⟩ : ∃ q, q = (k : Int) * k := ⟨_, rfl⟩
      obtain ⟨y, hy⟩ : ∃ y, y = max x (-x) := ⟨_, rfl⟩
      rw [← hq, ← hy] at hm lim
      rw [← hm] at lim
      have w1' : IntKind.i64.wrap ((k : Int) * k) = q := by rw [← hq, IntKind.wrap_i64]; omega
      have w2 : IntKind.i64.wrap (-x) = -x := by rw [IntKind.wrap_i64]; omega
      have w3 : IntKind.i64.wrap (q * y) = m := by rw [← hm, IntKind.wrap_i64]; omega
      have fz : fitZ z := fit4 (by omega)
      have fm : fitZ m := fit4 (by omega)
      have fs : fitZ (z + m) := fit4 (by omega)
      have m1 : -9223372036854775808 ≤ m := by omega
      have m2 : m ≤ 9223372036854775807 := by omega
      replace fz := Lib.hid fz
      replace fm := Lib.hid fm
      replace fs := Lib.hid fs
      replace hy := hy.symm
      clear lim bd bd2 tb hm hq
      go_upto_region 5 with fail
      have KW_D : Hid (WB wr.drew gw z A1 c1) := ⟨KW.out.k, KW.out.s.drew⟩
      have HB_D : Hid (Below w.heap.size w wr.drew) := HB.out.drew
      have hgd : gw < wr.drew.heap.size := KW.out.k.lt
      clear KW HB
      skip
      generalize hD : wr.drew = D at KW_D HB_D hgd
      refine wp_region_held_drew (S := fun _ => True) (by kernel_rfl) trivial (fun hHeld => ?_)
      rw [hD]
      clear hD hx
      refine wpAnyH_take (i := 1) (v := .int .i64 k) rfl (by kernel_rfl) (by kernel_rfl) (by kernel_rfl) (fun _ _ _ h => h) (Or.inl ⟨by rfl, by intro w hSw; (try dsimp only at hSw); go_simp⟩) (by assumption) ?_
      (try simp only [Act.put, List.getElem_toArray, List.getElem_cons_zero, List.getElem_cons_succ, List.setIfInBounds_toArray, List.set_cons_zero, List.set_cons_succ])
      refine wpAnyH_take (i := 2) (v := .int .i64 k) rfl (by kernel_rfl) (by kernel_rfl) (by kernel_rfl) (fun _ _ _ h => h) (Or.inl ⟨by rfl, by intro w hSw; (try dsimp only at hSw); go_simp⟩) (by assumption) ?_
      (try simp only [Act.put, List.getElem_toArray, List.getElem_cons_zero, List.getElem_cons_succ, List.setIfInBounds_toArray, List.set_cons_zero, List.set_cons_succ])
      refine wpAnyH_take (i := 3) (v := .int .i64 q) rfl (by kernel_rfl) (by kernel_rfl) (by kernel_rfl) (fun _ _ _ h => h) (Or.inl ⟨by rfl, by intro w hSw; (try dsimp only at hSw); go_simp⟩) (by assumption) ?_
      (try simp only [Act.put, List.getElem_toArray, List.getElem_cons_zero, List.getElem_cons_succ, List.setIfInBounds_toArray, List.set_cons_zero, List.set_cons_succ])
      refine wpAnyH_take (i := 4) (v := .int .i64 x) rfl (by kernel_rfl) (by kernel_rfl) (by kernel_rfl) (fun _ _ _ h => h) (Or.inl ⟨by rfl, by intro w hSw; (try dsimp only at hSw); go_simp⟩) (by assumption) ?_
      (try simp only [Act.put, List.getElem_toArray, List.getElem_cons_zero, List.getElem_cons_succ, List.setIfInBounds_toArray, List.set_cons_zero, List.set_cons_succ])
      refine wpAnyH_take (i := 5) (v := .int .i64 x) rfl (by kernel_rfl) (by kernel_rfl) (by kernel_rfl) (fun _ _ _ h => h) (Or.inl ⟨by rfl, by intro w hSw; (try dsimp only at hSw); go_simp⟩) (by assumption) ?_
      (try simp only [Act.put, List.getElem_toArray, List.getElem_cons_zero, List.getElem_cons_succ, List.setIfInBounds_toArray, List.set_cons_zero, List.set_cons_succ])
      refine wpAnyH_take (i := 6) (v := .int .i64 (-x)) rfl (by kernel_rfl) (by kernel_rfl) (by kernel_rfl) (fun _ _ _ h => h) (Or.inl ⟨by rfl, by intro w hSw; (try dsimp only at hSw); go_simp⟩) (by assumption) ?_
      (try simp only [Act.put, List.getElem_toArray, List.getElem_cons_zero, List.getElem_cons_succ, List.setIfInBounds_toArray, List.set_cons_zero, List.set_cons_succ])
      refine wpAnyH_take (i := 7) (v := .int .i64 y) rfl (by kernel_rfl) (by kernel_rfl) (by kernel_rfl) (fun _ _ _ h => h) (Or.inl ⟨by rfl, by intro w hSw; (try dsimp only at hSw); go_simp⟩) (by assumption) ?_
      (try simp only [Act.put, List.getElem_toArray, List.getElem_cons_zero, List.getElem_cons_succ, List.setIfInBounds_toArray, List.set_cons_zero, List.set_cons_succ])
      refine wpAnyH_take (i := 8) (v := .int .i64 m) rfl (by kernel_rfl) (by kernel_rfl) (by kernel_rfl) (fun _ _ _ h => h) (Or.inl ⟨by rfl, by intro w hSw; (try dsimp only at hSw); go_simp⟩) (by assumption) ?_
      (try simp only [Act.put, List.getElem_toArray, List.getElem_cons_zero, List.getElem_cons_succ, List.setIfInBounds_toArray, List.set_cons_zero, List.set_cons_succ])
      refine wpAnyH_ready (rs := [0, 9]) (by kernel_rfl) (by simp) ?_
      refine AllReadyH.cons rfl (fun K hK => ?_) (AllReadyH.cons rfl (fun K hK => ?_) AllReadyH.nil)
      · skip
        have c0 := KW_D.out.k.at_ 0 rfl
        have c1_ := KW_D.out.k.at_ 1 rfl
        go_simp
        refine hK.out _ _ (trivial) (fun hHeld2 => ?_)
        clear hK K hHeld
        have hHeld := hHeld2
        clear hHeld2
        (try simp only [Act.put, List.getElem_toArray, List.getElem_cons_zero, List.getElem_cons_succ, List.setIfInBounds_toArray, List.set_cons_zero, List.set_cons_succ])
        refine wpAnyH_ready (rs := [9]) (by kernel_rfl) (by simp) ?_
        refine AllReadyH.cons rfl (fun K hK => ?_) AllReadyH.nil
        go_simp
        (with_reducible refine (from_any m D m1 m2).mono ?_)
        rintro e v1 ⟨A2, c2, rfl, hs2, hb⟩
        (try dsimp only)
        have KW_v1 := Lib.hid ((KW_D).out.keep hb)
        have HB_v1 := Lib.hid (below_mono (HB_D).out hb)
        have SM_v1 := Lib.hid hs2
        clear hs2
        clear hb
        (try go_wp2_with fail)
        refine hK.out _ _ (trivial) (fun hHeld2 => ?_)
        clear hK K hHeld
        have hHeld := hHeld2
        clear hHeld2
        (try simp only [Act.put, List.getElem_toArray, List.getElem_cons_zero, List.getElem_cons_succ, List.setIfInBounds_toArray, List.set_cons_zero, List.set_cons_succ])
        refine wpAnyH_ready (rs := [10]) (by kernel_rfl) (by simp) ?_
        refine AllReadyH.cons rfl (fun K hK => ?_) AllReadyH.nil
        go_simp
        (with_reducible refine (wadd_z fz.out fm.out fs.out A1 A2 c1 c2 v1 KW_v1.out.s SM_v1.out).mono ?_)
        rintro e v2 ⟨A3, c3, rfl, hs3, hb⟩
        (try dsimp only)
        have KW_v2 := Lib.hid ((KW_v1).out.keep hb)
        have HB_v2 := Lib.hid (below_mono (HB_v1).out hb)
        have SM_v2 := Lib.hid ((SM_v1).out.below hb)
        have SS_v2 := Lib.hid hs3
        clear hs3
        clear hb
        (try go_wp2_with fail)
        refine hK.out _ _ (trivial) (fun hHeld2 => ?_)
        clear hK K hHeld
        have hHeld := hHeld2
        clear hHeld2
        (try simp only [Act.put, List.getElem_toArray, List.getElem_cons_zero, List.getElem_cons_succ, List.setIfInBounds_toArray, List.set_cons_zero, List.set_cons_succ])
        refine wpAnyH_take (i := 11) (v := .tuple #[.agg #[.bool (wOf (z + m)).1, .slice A3 (wOf (z + m)).2.length c3], .int .i64 0]) rfl (by kernel_rfl) (by kernel_rfl) (by kernel_rfl) (fun _ _ _ h => h) (Or.inl ⟨by rfl, by intro w hSw; (try dsimp only at hSw); go_simp⟩) (by assumption) ?_
        (try simp only [Act.put, List.getElem_toArray, List.getElem_cons_zero, List.getElem_cons_succ, List.setIfInBounds_toArray, List.set_cons_zero, List.set_cons_succ])
        refine wpAnyH_take (i := 12) (v := .agg #[.bool (wOf (z + m)).1, .slice A3 (wOf (z + m)).2.length c3]) rfl (by kernel_rfl) (by kernel_rfl) (by kernel_rfl) (fun _ _ _ h => h) (Or.inl ⟨by rfl, by intro w hSw; (try dsimp only at hSw); go_simp⟩) (by assumption) ?_
        (try simp only [Act.put, List.getElem_toArray, List.getElem_cons_zero, List.getElem_cons_succ, List.setIfInBounds_toArray, List.set_cons_zero, List.set_cons_succ])
        refine wpAnyH_take (i := 13) (v := .int .i64 0) rfl (by kernel_rfl) (by kernel_rfl) (by kernel_rfl) (fun _ _ _ h => h) (Or.inl ⟨by rfl, by intro w hSw; (try dsimp only at hSw); go_simp⟩) (by assumption) ?_
        (try simp only [Act.put, List.getElem_toArray, List.getElem_cons_zero, List.getElem_cons_succ, List.setIfInBounds_toArray, List.set_cons_zero, List.set_cons_succ])
        refine wpAnyH_ready (rs := [14]) (by kernel_rfl) (by simp) ?_
        refine AllReadyH.cons rfl (fun K hK => ?_) AllReadyH.nil
        have c0 := KW_v2.out.k.at_ 0 rfl
        have c1_ := KW_v2.out.k.at_ 1 rfl
        have f0 := KW_v2.out.k.frozen 0
        have f1 := KW_v2.out.k.frozen 1
        go_simp
        refine hK.out _ _ trivial (fun hHeld2 => ?_)
        clear hK K hHeld
        have hHeld := hHeld2
        clear hHeld2
        (try simp only [Act.put, List.getElem_toArray, List.getElem_cons_zero, List.getElem_cons_succ, List.setIfInBounds_toArray, List.set_cons_zero, List.set_cons_succ])
        refine wpAnyH_done (by kernel_rfl) ?_ _
        have KN := Lib.hid (WB.put KW_v2.out.k SS_v2.out)
        have HN := Lib.hid ((HB_v2.out.setCell (p := ⟨gw, 0, none⟩) hg (.bool (wOf (z + m)).1)).setCell (p := ⟨gw, 1, none⟩) hg (.slice A3 (wOf (z + m)).2.length c3))
        go_wp2
        go_roundw
        case rel => exact ⟨k + 1, A3, c3, by omega, by go_num, by rw [NX.out]; exact KN.out, HN.out⟩
        case measure => simp [intOf]; omega
      · skip
        go_simp
        (with_reducible refine (from_any m D m1 m2).mono ?_)
        rintro e v3 ⟨A2, c2, rfl, hs2, hb⟩
        (try dsimp only)
        have KW_v3 := Lib.hid ((KW_D).out.keep hb)
        have HB_v3 := Lib.hid (below_mono (HB_D).out hb)
        have SM_v3 := Lib.hid hs2
        clear hs2
        clear hb
        (try go_wp2_with fail)
        refine hK.out _ _ (trivial) (fun hHeld2 => ?_)
        clear hK K hHeld
        have hHeld := hHeld2
        clear hHeld2
        (try simp only [Act.put, List.getElem_toArray, List.getElem_cons_zero, List.getElem_cons_succ, List.setIfInBounds_toArray, List.set_cons_zero, List.set_cons_succ])
        refine wpAnyH_ready (rs := [0]) (by kernel_rfl) (by simp) ?_
        refine AllReadyH.cons rfl (fun K hK => ?_) AllReadyH.nil
        have c0 := KW_v3.out.k.at_ 0 rfl
        have c1_ := KW_v3.out.k.at_ 1 rfl
        go_simp
        refine hK.out _ _ (trivial) (fun hHeld2 => ?_)
        clear hK K hHeld
        have hHeld := hHeld2
        clear hHeld2
        (try simp only [Act.put, List.getElem_toArray, List.getElem_cons_zero, List.getElem_cons_succ, List.setIfInBounds_toArray, List.set_cons_zero, List.set_cons_succ])
        refine wpAnyH_ready (rs := [10]) (by kernel_rfl) (by simp) ?_
        refine AllReadyH.cons rfl (fun K hK => ?_) AllReadyH.nil
        go_simp
        (with_reducible refine (wadd_z fz.out fm.out fs.out A1 A2 c1 c2 v3 KW_v3.out.s SM_v3.out).mono ?_)
        rintro e v4 ⟨A3, c3, rfl, hs3, hb⟩
        (try dsimp only)
        have KW_v4 := Lib.hid ((KW_v3).out.keep hb)
        have HB_v4 := Lib.hid (below_mono (HB_v3).out hb)
        have SM_v4 := Lib.hid ((SM_v3).out.below hb)
        have SS_v4 := Lib.hid hs3
        clear hs3
        clear hb
        (try go_wp2_with fail)
        refine hK.out _ _ (trivial) (fun hHeld2 => ?_)
        clear hK K hHeld
        have hHeld := hHeld2
        clear hHeld2
        (try simp only [Act.put, List.getElem_toArray, List.getElem_cons_zero, List.getElem_cons_succ, List.setIfInBounds_toArray, List.set_cons_zero, List.set_cons_succ])
        refine wpAnyH_take (i := 11) (v := .tuple #[.agg #[.bool (wOf (z + m)).1, .slice A3 (wOf (z + m)).2.length c3], .int .i64 0]) rfl (by kernel_rfl) (by kernel_rfl) (by kernel_rfl) (fun _ _ _ h => h) (Or.inl ⟨by rfl, by intro w hSw; (try dsimp only at hSw); go_simp⟩) (by assumption) ?_
        (try simp only [Act.put, List.getElem_toArray, List.getElem_cons_zero, List.getElem_cons_succ, List.setIfInBounds_toArray, List.set_cons_zero, List.set_cons_succ])
        refine wpAnyH_take (i := 12) (v := .agg #[.bool (wOf (z + m)).1, .slice A3 (wOf (z + m)).2.length c3]) rfl (by kernel_rfl) (by kernel_rfl) (by kernel_rfl) (fun _ _ _ h => h) (Or.inl ⟨by rfl, by intro w hSw; (try dsimp only at hSw); go_simp⟩) (by assumption) ?_
        (try simp only [Act.put, List.getElem_toArray, List.getElem_cons_zero, List.getElem_cons_succ, List.setIfInBounds_toArray, List.set_cons_zero, List.set_cons_succ])
        refine wpAnyH_take (i := 13) (v := .int .i64 0) rfl (by kernel_rfl) (by kernel_rfl) (by kernel_rfl) (fun _ _ _ h => h) (Or.inl ⟨by rfl, by intro w hSw; (try dsimp only at hSw); go_simp⟩) (by assumption) ?_
        (try simp only [Act.put, List.getElem_toArray, List.getElem_cons_zero, List.getElem_cons_succ, List.setIfInBounds_toArray, List.set_cons_zero, List.set_cons_succ])
        refine wpAnyH_ready (rs := [14]) (by kernel_rfl) (by simp) ?_
        refine AllReadyH.cons rfl (fun K hK => ?_) AllReadyH.nil
        have c0 := KW_v4.out.k.at_ 0 rfl
        have c1_ := KW_v4.out.k.at_ 1 rfl
        have f0 := KW_v4.out.k.frozen 0
        have f1 := KW_v4.out.k.frozen 1
        go_simp
        refine hK.out _ _ trivial (fun hHeld2 => ?_)
        clear hK K hHeld
        have hHeld := hHeld2
        clear hHeld2
        (try simp only [Act.put, List.getElem_toArray, List.getElem_cons_zero, List.getElem_cons_succ, List.setIfInBounds_toArray, List.set_cons_zero, List.set_cons_succ])
        refine wpAnyH_done (by kernel_rfl) ?_ _
        have KN := Lib.hid (WB.put KW_v4.out.k SS_v4.out)
        have HN := Lib.hid ((HB_v4.out.setCell (p := ⟨gw, 0, none⟩) hg (.bool (wOf (z + m)).1)).setCell (p := ⟨gw, 1, none⟩) hg (.slice A3 (wOf (z + m)).2.length c3))
        go_wp2
        go_roundw
        case rel => exact ⟨k + 1, A3, c3, by omega, by go_num, by rw [NX.out]; exact KN.out, HN.out⟩
        case measure => simp [intOf]; omega
    · obtain rfl : k = l.length := by omega
      have tk : decide ((l.length : Int) < (l.length : Int)) = false := decide_eq_false (by omega)
      have HB2 := HB.out
      skip
      obtain ⟨z, hz⟩ : ∃ z, z = swZ l l.length := ⟨_, rfl⟩
      rw [← hz] at KW bd
      have SIe : swI l n long = (Rat.divInt (z * n) long).ceil := by rw [hz]; rfl
      rw [SIe] at SI
      clear BD TB S0 HB2 hz
      have hS : z ≤ 168884986026393600 := by omega
      have hp : 0 ≤ z * n := Int.mul_nonneg bd.1 n0
      have hp2 : z * n ≤ 168884986026393600 * 20000000000000000 := Int.mul_le_mul hS (by omega) n0 (by omega)
      have fz := Lib.hid (fit4 (z := z) (by omega))
      have fn := Lib.hid (fit4 (z := n) (by omega))
      have fp := Lib.hid (fit4 (z := z * n) (by omega))
      have fl := Lib.hid (fit4 (z := long) (by omega))
      have m1 : -9223372036854775808 ≤ n := by omega
      have m2 : n ≤ 9223372036854775807 := by omega
      have m3 : -9223372036854775808 ≤ long := by omega
      have m4 : long ≤ 9223372036854775807 := by omega
      have hl0 : long ≠ 0 := by omega
      have FQ : Hid (Few 4 (Rat.divInt (z * n) long)) := few_div hl0 (show (z * n).natAbs < 340282366920938463463374607431768211456 by omega) (show long.natAbs < 340282366920938463463374607431768211456 by omega)
      obtain ⟨p, hpp⟩ : ∃ p, p = z * n := ⟨_, rfl⟩
      obtain ⟨q, hqq⟩ : ∃ q, q = Rat.divInt (z * n) long := ⟨_, rfl⟩
      rw [← hqq] at FQ SI SIe
      replace SIe := Lib.hid SIe
      clear bd hS hp hp2
      obtain ⟨r1, r2⟩ := SI.out
      go_upto_region 7 with fail
      go_cut [] from 39 to 45 (fun wx => ∃ (A2 : Option Addr) (c2 : Nat), WB wx gw p A2 c2 ∧ Below w.heap.size w wx)
      case first =>
        have KW_D : Hid (WB wr.drew gw z A1 c1) := ⟨KW.out.k, KW.out.s.drew⟩
        have HB_D : Hid (Below w.heap.size w wr.drew) := HB.out.drew
        clear KW HB
        generalize hD : wr.drew = D at KW_D HB_D
        refine wp_region_held_drew (S := fun _ => True) (by kernel_rfl) trivial (fun hHeld => ?_)
        rw [hD]
        clear hD
        refine wpAnyH_take (i := 1) (v := .int .i64 n) rfl (by kernel_rfl) (by kernel_rfl) (by kernel_rfl) (fun _ _ _ h => h) (Or.inl ⟨by rfl, by intro w hSw; (try dsimp only at hSw); go_simp⟩) (by assumption) ?_
        (try simp only [Act.put, List.getElem_toArray, List.getElem_cons_zero, List.getElem_cons_succ, List.setIfInBounds_toArray, List.set_cons_zero, List.set_cons_succ])
        refine wpAnyH_ready (rs := [0, 2]) (by kernel_rfl) (by simp) ?_
        refine AllReadyH.cons rfl (fun K hK => ?_) (AllReadyH.cons rfl (fun K hK => ?_) AllReadyH.nil)
        · skip
          have c0 := KW_D.out.k.at_ 0 rfl
          have c1_ := KW_D.out.k.at_ 1 rfl
          go_simp
          refine hK.out _ _ (trivial) (fun hHeld2 => ?_)
          clear hK K hHeld
          have hHeld := hHeld2
          clear hHeld2
          (try simp only [Act.put, List.getElem_toArray, List.getElem_cons_zero, List.getElem_cons_succ, List.setIfInBounds_toArray, List.set_cons_zero, List.set_cons_succ])
          refine wpAnyH_ready (rs := [2]) (by kernel_rfl) (by simp) ?_
          refine AllReadyH.cons rfl (fun K hK => ?_) AllReadyH.nil
          go_simp
          (with_reducible refine (from_any n D m1 m2).mono ?_)
          rintro e v1 ⟨A2, c2, rfl, hs2, hb⟩
          (try dsimp only)
          have KW_v1 := Lib.hid ((KW_D).out.keep hb)
          have HB_v1 := Lib.hid (below_mono (HB_D).out hb)
          have SM_v1 := Lib.hid hs2
          clear hs2
          clear hb
          (try go_wp2_with fail)
          refine hK.out _ _ (trivial) (fun hHeld2 => ?_)
          clear hK K hHeld
          have hHeld := hHeld2
          clear hHeld2
          (try simp only [Act.put, List.getElem_toArray, List.getElem_cons_zero, List.getElem_cons_succ, List.setIfInBounds_toArray, List.set_cons_zero, List.set_cons_succ])
          refine wpAnyH_ready (rs := [3]) (by kernel_rfl) (by simp) ?_
          refine AllReadyH.cons rfl (fun K hK => ?_) AllReadyH.nil
          go_simp
          (with_reducible refine (wmul_z fz.out fn.out fp.out A1 A2 c1 c2 v1 KW_v1.out.s SM_v1.out).mono ?_)
          rintro e v2 ⟨A3, c3, rfl, hs3, hb⟩
          (try dsimp only)
          have KW_v2 := Lib.hid ((KW_v1).out.keep hb)
          have HB_v2 := Lib.hid (below_mono (HB_v1).out hb)
          have SM_v2 := Lib.hid ((SM_v1).out.below hb)
          have SS_v2 := Lib.hid hs3
          clear hs3
          clear hb
          (try go_wp2_with fail)
          refine hK.out _ _ (trivial) (fun hHeld2 => ?_)
          clear hK K hHeld
          have hHeld := hHeld2
          clear hHeld2
          (try simp only [Act.put, List.getElem_toArray, List.getElem_cons_zero, List.getElem_cons_succ, List.setIfInBounds_toArray, List.set_cons_zero, List.set_cons_succ])
          refine wpAnyH_take (i := 4) (v := .tuple #[.agg #[.bool (wOf (z * n)).1, .slice A3 (wOf (z * n)).2.length c3], .int .i64 0]) rfl (by kernel_rfl) (by kernel_rfl) (by kernel_rfl) (fun _ _ _ h => h) (Or.inl ⟨by rfl, by intro w hSw; (try dsimp only at hSw); go_simp⟩) (by assumption) ?_
          (try simp only [Act.put, List.getElem_toArray, List.getElem_cons_zero, List.getElem_cons_succ, List.setIfInBounds_toArray, List.set_cons_zero, List.set_cons_succ])
          refine wpAnyH_take (i := 5) (v := .agg #[.bool (wOf (z * n)).1, .slice A3 (wOf (z * n)).2.length c3]) rfl (by kernel_rfl) (by kernel_rfl) (by kernel_rfl) (fun _ _ _ h => h) (Or.inl ⟨by rfl, by intro w hSw; (try dsimp only at hSw); go_simp⟩) (by assumption) ?_
          (try simp only [Act.put, List.getElem_toArray, List.getElem_cons_zero, List.getElem_cons_succ, List.setIfInBounds_toArray, List.set_cons_zero, List.set_cons_succ])
          refine wpAnyH_take (i := 6) (v := .int .i64 0) rfl (by kernel_rfl) (by kernel_rfl) (by kernel_rfl) (fun _ _ _ h => h) (Or.inl ⟨by rfl, by intro w hSw; (try dsimp only at hSw); go_simp⟩) (by assumption) ?_
          (try simp only [Act.put, List.getElem_toArray, List.getElem_cons_zero, List.getElem_cons_succ, List.setIfInBounds_toArray, List.set_cons_zero, List.set_cons_succ])
          refine wpAnyH_ready (rs := [7]) (by kernel_rfl) (by simp) ?_
          refine AllReadyH.cons rfl (fun K hK => ?_) AllReadyH.nil
          have c0 := KW_v2.out.k.at_ 0 rfl
          have c1_ := KW_v2.out.k.at_ 1 rfl
          have f0 := KW_v2.out.k.frozen 0
          have f1 := KW_v2.out.k.frozen 1
          go_simp
          refine hK.out _ _ trivial (fun hHeld2 => ?_)
          clear hK K hHeld
          have hHeld := hHeld2
          clear hHeld2
          (try simp only [Act.put, List.getElem_toArray, List.getElem_cons_zero, List.getElem_cons_succ, List.setIfInBounds_toArray, List.set_cons_zero, List.set_cons_succ])
          refine wpAnyH_done (by kernel_rfl) ?_ _
          go_wp2_with fail
          go_meet
          exact ⟨A3, c3, hpp.symm ▸ WB.put KW_v2.out.k SS_v2.out, (HB_v2.out.setCell (p := ⟨gw, 0, none⟩) hg _).setCell (p := ⟨gw, 1, none⟩) hg _⟩
        · skip
          go_simp
          (with_reducible refine (from_any n D m1 m2).mono ?_)
          rintro e v3 ⟨A2, c2, rfl, hs2, hb⟩
          (try dsimp only)
          have KW_v3 := Lib.hid ((KW_D).out.keep hb)
          have HB_v3 := Lib.hid (below_mono (HB_D).out hb)
          have SM_v3 := Lib.hid hs2
          clear hs2
          clear hb
          (try go_wp2_with fail)
          refine hK.out _ _ (trivial) (fun hHeld2 => ?_)
          clear hK K hHeld
          have hHeld := hHeld2
          clear hHeld2
          (try simp only [Act.put, List.getElem_toArray, List.getElem_cons_zero, List.getElem_cons_succ, List.setIfInBounds_toArray, List.set_cons_zero, List.set_cons_succ])
          refine wpAnyH_ready (rs := [0]) (by kernel_rfl) (by simp) ?_
          refine AllReadyH.cons rfl (fun K hK => ?_) AllReadyH.nil
          have c0 := KW_v3.out.k.at_ 0 rfl
          have c1_ := KW_v3.out.k.at_ 1 rfl
          go_simp
          refine hK.out _ _ (trivial) (fun hHeld2 => ?_)
          clear hK K hHeld
          have hHeld := hHeld2
          clear hHeld2
          (try simp only [Act.put, List.getElem_toArray, List.getElem_cons_zero, List.getElem_cons_succ, List.setIfInBounds_toArray, List.set_cons_zero, List.set_cons_succ])
          refine wpAnyH_ready (rs := [3]) (by kernel_rfl) (by simp) ?_
          refine AllReadyH.cons rfl (fun K hK => ?_) AllReadyH.nil
          go_simp
          (with_reducible refine (wmul_z fz.out fn.out fp.out A1 A2 c1 c2 v3 KW_v3.out.s SM_v3.out).mono ?_)
          rintro e v4 ⟨A3, c3, rfl, hs3, hb⟩
          (try dsimp only)
          have KW_v4 := Lib.hid ((KW_v3).out.keep hb)
          have HB_v4 := Lib.hid (below_mono (HB_v3).out hb)
          have SM_v4 := Lib.hid ((SM_v3).out.below hb)
          have SS_v4 := Lib.hid hs3
          clear hs3
          clear hb
          (try go_wp2_with fail)
          refine hK.out _ _ (trivial) (fun hHeld2 => ?_)
          clear hK K hHeld
          have hHeld := hHeld2
          clear hHeld2
          (try simp only [Act.put, List.getElem_toArray, List.getElem_cons_zero, List.getElem_cons_succ, List.setIfInBounds_toArray, List.set_cons_zero, List.set_cons_succ])
          refine wpAnyH_take (i := 4) (v := .tuple #[.agg #[.bool (wOf (z * n)).1, .slice A3 (wOf (z * n)).2.length c3], .int .i64 0]) rfl (by kernel_rfl) (by kernel_rfl) (by kernel_rfl) (fun _ _ _ h => h) (Or.inl ⟨by rfl, by intro w hSw; (try dsimp only at hSw); go_simp⟩) (by assumption) ?_
          (try simp only [Act.put, List.getElem_toArray, List.getElem_cons_zero, List.getElem_cons_succ, List.setIfInBounds_toArray, List.set_cons_zero, List.set_cons_succ])
          refine wpAnyH_take (i := 5) (v := .agg #[.bool (wOf (z * n)).1, .slice A3 (wOf (z * n)).2.length c3]) rfl (by kernel_rfl) (by kernel_rfl) (by kernel_rfl) (fun _ _ _ h => h) (Or.inl ⟨by rfl, by intro w hSw; (try dsimp only at hSw); go_simp⟩) (by assumption) ?_
          (try simp only [Act.put, List.getElem_toArray, List.getElem_cons_zero, List.getElem_cons_succ, List.setIfInBounds_toArray, List.set_cons_zero, List.set_cons_succ])
          refine wpAnyH_take (i := 6) (v := .int .i64 0) rfl (by kernel_rfl) (by kernel_rfl) (by kernel_rfl) (fun _ _ _ h => h) (Or.inl ⟨by rfl, by intro w hSw; (try dsimp only at hSw); go_simp⟩) (by assumption) ?_
          (try simp only [Act.put, List.getElem_toArray, List.getElem_cons_zero, List.getElem_cons_succ, List.setIfInBounds_toArray, List.set_cons_zero, List.set_cons_succ])
          refine wpAnyH_ready (rs := [7]) (by kernel_rfl) (by simp) ?_
          refine AllReadyH.cons rfl (fun K hK => ?_) AllReadyH.nil
          have c0 := KW_v4.out.k.at_ 0 rfl
          have c1_ := KW_v4.out.k.at_ 1 rfl
          have f0 := KW_v4.out.k.frozen 0
          have f1 := KW_v4.out.k.frozen 1
          go_simp
          refine hK.out _ _ trivial (fun hHeld2 => ?_)
          clear hK K hHeld
          have hHeld := hHeld2
          clear hHeld2
          (try simp only [Act.put, List.getElem_toArray, List.getElem_cons_zero, List.getElem_cons_succ, List.setIfInBounds_toArray, List.set_cons_zero, List.set_cons_succ])
          refine wpAnyH_done (by kernel_rfl) ?_ _
          go_wp2_with fail
          go_meet
          exact ⟨A3, c3, hpp.symm ▸ WB.put KW_v4.out.k SS_v4.out, (HB_v4.out.setCell (p := ⟨gw, 0, none⟩) hg _).setCell (p := ⟨gw, 1, none⟩) hg _⟩
      case rest =>
        clear KW HB
        obtain ⟨A4, c4, hK, hB⟩ := hcut
        have KW := Lib.hid hK
        have HB := Lib.hid hB
        have hlw := hK.k.lt
        clear hK hB
        rw [← hpp] at hqq fp
        clear hpp fz fn m1 m2
        have MK : Hid (∀ A2 c2 V, Sl V A4 (wOf p).2 c4 → Sl V A2 (wOf long).2 c2 → Calls Try.prog 31 #[.agg #[.bool (wOf p).1, .slice A4 (wOf p).2.length c4], .agg #[.bool (wOf long).1, .slice A2 (wOf long).2.length c2]] V (FRes (frQ q, 0) V)) := fun A2 c2 V s1 s2 => by rw [hqq]; exact make_z fp.out fl.out hl0 A4 A2 c4 c2 V s1 s2
        clear hqq fp fl hl0
        skip
        go_upto_region 8 with fail
        go_cut [10, 11] from 46 to 52 (fun s10 s11 wx => ∃ (gq : Nat) (A2 : Option Addr) (c2 : Nat) (B2 : Option Addr) (d2 : Nat), s10 = .pointer (some ⟨gq, 0, none⟩) ∧ s11 = .int .i64 0 ∧ BlkV wx gq 59 #[.bool (frQ q).1.1, .slice A2 (frQ q).1.2.length c2, .bool (frQ q).2.1, .slice B2 (frQ q).2.2.length d2] ∧ Sl wx A2 (frQ q).1.2 c2 ∧ Sl wx B2 (frQ q).2.2 d2 ∧ Below w.heap.size w wx)
        case first =>
          skip
          have KW_D : Hid (WB wc.drew gw p A4 c4) := ⟨KW.out.k, KW.out.s.drew⟩
          have HB_D : Hid (Below w.heap.size w wc.drew) := HB.out.drew
          have hlD : gw < wc.drew.heap.size := KW.out.k.lt
          have hsD : w.heap.size ≤ wc.drew.heap.size := HB.out.size
          clear KW HB
          generalize hD : wc.drew = D at KW_D HB_D hlD hsD
          refine wp_region_held_drew (S := fun w' => w'.cell? ⟨gw, 0, none⟩ = some (.bool (wOf p).1) ∧ w'.cell? ⟨gw, 1, none⟩ = some (.slice A4 (wOf p).2.length c4)) (by kernel_rfl) (by rw [hD]; exact ⟨KW_D.out.k.at_ 0 rfl, KW_D.out.k.at_ 1 rfl⟩) (fun hHeld => ?_)
          rw [hD] at hHeld ⊢
          clear hD
          refine wpAnyH_take (i := 0) (v := .agg #[.bool (wOf p).1, .slice A4 (wOf p).2.length c4]) rfl (by kernel_rfl) (by kernel_rfl) (by kernel_rfl) (fun _ _ _ h => h) (Or.inl ⟨by rfl, by intro w hSw; (try dsimp only at hSw); go_simp⟩) (by assumption) ?_
          (try simp only [Act.put, List.getElem_toArray, List.getElem_cons_zero, List.setIfInBounds_toArray, List.set_cons_zero, List.set_cons_succ])
          refine wpAnyH_take (i := 1) (v := .int .i64 long) rfl (by kernel_rfl) (by kernel_rfl) (by kernel_rfl) (fun _ _ _ h => h) (Or.inl ⟨by rfl, by intro w hSw; (try dsimp only at hSw); go_simp⟩) (by assumption) ?_
          (try simp only [Act.put, List.getElem_toArray, List.getElem_cons_zero, List.getElem_cons_succ, List.setIfInBounds_toArray, List.set_cons_zero, List.set_cons_succ])
          refine wpAnyH_ready (rs := [2, 7]) (by kernel_rfl) (by simp) ?_
          refine AllReadyH.cons rfl (fun K hK => ?_) (AllReadyH.cons rfl (fun K hK => ?_) AllReadyH.nil)
          · skip
            go_simp
            (with_reducible refine (from_any long D m3 m4).mono ?_)
            rintro e v1 ⟨A2, c2, rfl, hs2, hb⟩
            (try dsimp only)
            have KW_v1 := Lib.hid ((KW_D).out.keep hb)
            have HB_v1 := Lib.hid (below_mono (HB_D).out hb)
            have SM_v1 := Lib.hid hs2
            have hlv1 : gw < v1.heap.size := KW_v1.out.k.lt
            have hsv1 := HB_v1.out.size
            clear hs2
            clear hb
            (try go_wp2_with fail)
            refine hK.out _ _ (⟨KW_v1.out.k.at_ 0 rfl, KW_v1.out.k.at_ 1 rfl⟩) (fun hHeld2 => ?_)
            clear hK K hHeld
            have hHeld := hHeld2
            clear hHeld2
            (try simp only [Act.put, List.getElem_toArray, List.getElem_cons_zero, List.getElem_cons_succ, List.setIfInBounds_toArray, List.set_cons_zero, List.set_cons_succ])
            refine wpAnyH_ready (rs := [3, 7]) (by kernel_rfl) (by simp) ?_
            refine AllReadyH.cons rfl (fun K hK => ?_) (AllReadyH.cons rfl (fun K hK => ?_) AllReadyH.nil)
            · skip
              go_simp
              (with_reducible refine (MK.out A2 c2 v1 KW_v1.out.s SM_v1.out).mono ?_)
              rintro e v2 ⟨A3, c3, B3, d3, rfl, hs3, ht3, hb⟩
              (try dsimp only)
              have KW_v2 := Lib.hid ((KW_v1).out.keep hb)
              have HB_v2 := Lib.hid (below_mono (HB_v1).out hb)
              have SM_v2 := Lib.hid ((SM_v1).out.below hb)
              have SA_v2 := Lib.hid hs3
              have SB_v2 := Lib.hid ht3
              have hlv2 : gw < v2.heap.size := KW_v2.out.k.lt
              have hsv2 := HB_v2.out.size
              clear hs3 ht3
              clear hb
              (try go_wp2_with fail)
              refine hK.out _ _ (⟨KW_v2.out.k.at_ 0 rfl, KW_v2.out.k.at_ 1 rfl⟩) (fun hHeld2 => ?_)
              clear hK K hHeld
              have hHeld := hHeld2
              clear hHeld2
              (try simp only [Act.put, List.getElem_toArray, List.getElem_cons_zero, List.getElem_cons_succ, List.setIfInBounds_toArray, List.set_cons_zero, List.set_cons_succ])
              refine wpAnyH_take (i := 4) (v := .tuple #[.agg #[.bool (frQ q).1.1, .slice A3 (frQ q).1.2.length c3, .bool (frQ q).2.1, .slice B3 (frQ q).2.2.length d3], .int .i64 0]) rfl (by kernel_rfl) (by kernel_rfl) (by kernel_rfl) (fun _ _ _ h => h) (Or.inl ⟨by rfl, by intro w hSw; (try dsimp only at hSw); go_simp⟩) (by assumption) ?_
              (try simp only [Act.put, List.getElem_toArray, List.getElem_cons_zero, List.getElem_cons_succ, List.setIfInBounds_toArray, List.set_cons_zero, List.set_cons_succ])
              refine wpAnyH_take (i := 5) (v := .agg #[.bool (frQ q).1.1, .slice A3 (frQ q).1.2.length c3, .bool (frQ q).2.1, .slice B3 (frQ q).2.2.length d3]) rfl (by kernel_rfl) (by kernel_rfl) (by kernel_rfl) (fun _ _ _ h => h) (Or.inl ⟨by rfl, by intro w hSw; (try dsimp only at hSw); go_simp⟩) (by assumption) ?_
              (try simp only [Act.put, List.getElem_toArray, List.getElem_cons_zero, List.getElem_cons_succ, List.setIfInBounds_toArray, List.set_cons_zero, List.set_cons_succ])
              refine wpAnyH_take (i := 6) (v := .int .i64 0) rfl (by kernel_rfl) (by kernel_rfl) (by kernel_rfl) (fun _ _ _ h => h) (Or.inl ⟨by rfl, by intro w hSw; (try dsimp only at hSw); go_simp⟩) (by assumption) ?_
              (try simp only [Act.put, List.getElem_toArray, List.getElem_cons_zero, List.getElem_cons_succ, List.setIfInBounds_toArray, List.set_cons_zero, List.set_cons_succ])
              refine wpAnyH_ready (rs := [7]) (by kernel_rfl) (by simp) ?_
              refine AllReadyH.cons rfl (fun K hK => ?_) AllReadyH.nil
              have hb := blw1 v2 (.cells #[.bool false, .slice none 0 0, .bool false, .slice none 0 0] 59)
              obtain ⟨v3, hv3⟩ : ∃ V, V = v2.alloc (.cells #[.bool false, .slice none 0 0, .bool false, .slice none 0 0] 59) := ⟨_, rfl⟩
              rw [← hv3] at hb
              have KW_v3 := Lib.hid ((KW_v2).out.keep hb)
              have HB_v3 := Lib.hid (below_mono (HB_v2).out hb)
              have SM_v3 := Lib.hid ((SM_v2).out.below hb)
              have SA_v3 := Lib.hid ((SA_v2).out.below hb)
              have SB_v3 := Lib.hid ((SB_v2).out.below hb)
              have NB_v3 : Hid (BlkV v3 v2.heap.size 59 #[.bool false, .slice none 0 0, .bool false, .slice none 0 0]) := by rw [hv3]; exact BlkV.fresh rfl _ _
              have hlv3 : v2.heap.size < v3.heap.size := NB_v3.out.lt
              go_simp
              rw [← hv3]
              refine hK.out _ _ (⟨KW_v3.out.k.at_ 0 rfl, KW_v3.out.k.at_ 1 rfl⟩) (fun hHeld2 => ?_)
              clear hK K hHeld
              have hHeld := hHeld2
              clear hHeld2
              (try simp only [Act.put, List.getElem_toArray, List.getElem_cons_zero, List.getElem_cons_succ, List.setIfInBounds_toArray, List.set_cons_zero, List.set_cons_succ])
              clear hb hv3
              refine wpAnyH_ready (rs := [8]) (by kernel_rfl) (by simp) ?_
              refine AllReadyH.cons rfl (fun K hK => ?_) AllReadyH.nil
              have hne : gw ≠ v2.heap.size := Nat.ne_of_lt (by omega)
              have hge : w.heap.size ≤ v2.heap.size := by omega
              obtain ⟨P1, P2, P3, P4, P5⟩ := put_frac NB_v3.out KW_v3.out hne SA_v3.out SB_v3.out HB_v3.out hge
              have f0 := NB_v3.out.frozen 0
              have f1 := NB_v3.out.frozen 1
              have f2 := NB_v3.out.frozen 2
              have f3 := NB_v3.out.frozen 3
              have cf0 := NB_v3.out.at_ 0 rfl
              have cf1 := NB_v3.out.at_ 1 rfl
              have cf2 := NB_v3.out.at_ 2 rfl
              have cf3 := NB_v3.out.at_ 3 rfl
              go_simp
              refine hK.out _ _ ⟨P2.at_ 0 rfl, P2.at_ 1 rfl⟩ (fun hHeld2 => ?_)
              clear hK K hHeld
              have hHeld := hHeld2
              clear hHeld2
              (try simp only [Act.put, List.getElem_toArray, List.getElem_cons_zero, List.getElem_cons_succ, List.setIfInBounds_toArray, List.set_cons_zero, List.set_cons_succ])
              refine wpAnyH_take (i := 9) (v := .int .i64 0) rfl (by kernel_rfl) (by kernel_rfl) (by kernel_rfl) (fun _ _ _ h => h) (Or.inl ⟨by rfl, by intro w hSw; (try dsimp only at hSw); go_simp⟩) (by assumption) ?_
              (try simp only [Act.put, List.getElem_toArray, List.getElem_cons_zero, List.getElem_cons_succ, List.setIfInBounds_toArray, List.set_cons_zero, List.set_cons_succ])
              refine wpAnyH_done (by kernel_rfl) ?_ _
              go_wp2_with fail
              go_meet
              exact ⟨v2.heap.size, A3, c3, B3, d3, rfl, rfl, P1, P3, P4, P5⟩
            · skip
              have hb := blw1 v1 (.cells #[.bool false, .slice none 0 0, .bool false, .slice none 0 0] 59)
              obtain ⟨v5, hv5⟩ : ∃ V, V = v1.alloc (.cells #[.bool false, .slice none 0 0, .bool false, .slice none 0 0] 59) := ⟨_, rfl⟩
              rw [← hv5] at hb
              have KW_v5 := Lib.hid ((KW_v1).out.keep hb)
              have HB_v5 := Lib.hid (below_mono (HB_v1).out hb)
              have SM_v5 := Lib.hid ((SM_v1).out.below hb)
              have NB_v5 : Hid (BlkV v5 v1.heap.size 59 #[.bool false, .slice none 0 0, .bool false, .slice none 0 0]) := by rw [hv5]; exact BlkV.fresh rfl _ _
              have hlv5 : v1.heap.size < v5.heap.size := NB_v5.out.lt
              go_simp
              rw [← hv5]
              refine hK.out _ _ (⟨KW_v5.out.k.at_ 0 rfl, KW_v5.out.k.at_ 1 rfl⟩) (fun hHeld2 => ?_)
              clear hK K hHeld
              have hHeld := hHeld2
              clear hHeld2
              (try simp only [Act.put, List.getElem_toArray, List.getElem_cons_zero, List.getElem_cons_succ, List.setIfInBounds_toArray, List.set_cons_zero, List.set_cons_succ])
              clear hb hv5
              refine wpAnyH_ready (rs := [3]) (by kernel_rfl) (by simp) ?_
              refine AllReadyH.cons rfl (fun K hK => ?_) AllReadyH.nil
              go_simp
              (with_reducible refine (MK.out A2 c2 v5 KW_v5.out.s SM_v5.out).mono ?_)
              rintro e v6 ⟨A3, c3, B3, d3, rfl, hs3, ht3, hb⟩
              (try dsimp only)
              have KW_v6 := Lib.hid ((KW_v5).out.keep hb)
              have HB_v6 := Lib.hid (below_mono (HB_v5).out hb)
              have SM_v6 := Lib.hid ((SM_v5).out.below hb)
              have NB_v6 := Lib.hid ((NB_v5).out.keep hb)
              have SA_v6 := Lib.hid hs3
              have SB_v6 := Lib.hid ht3
              have hlv6 : gw < v6.heap.size := KW_v6.out.k.lt
              have hsv6 := HB_v6.out.size
              clear hs3 ht3
              clear hb
              (try go_wp2_with fail)
              refine hK.out _ _ (⟨KW_v6.out.k.at_ 0 rfl, KW_v6.out.k.at_ 1 rfl⟩) (fun hHeld2 => ?_)
              clear hK K hHeld
              have hHeld := hHeld2
              clear hHeld2
              (try simp only [Act.put, List.getElem_toArray, List.getElem_cons_zero, List.getElem_cons_succ, List.setIfInBounds_toArray, List.set_cons_zero, List.set_cons_succ])
              refine wpAnyH_take (i := 4) (v := .tuple #[.agg #[.bool (frQ q).1.1, .slice A3 (frQ q).1.2.length c3, .bool (frQ q).2.1, .slice B3 (frQ q).2.2.length d3], .int .i64 0]) rfl (by kernel_rfl) (by kernel_rfl) (by kernel_rfl) (fun _ _ _ h => h) (Or.inl ⟨by rfl, by intro w hSw; (try dsimp only at hSw); go_simp⟩) (by assumption) ?_
              (try simp only [Act.put, List.getElem_toArray, List.getElem_cons_zero, List.getElem_cons_succ, List.setIfInBounds_toArray, List.set_cons_zero, List.set_cons_succ])
              refine wpAnyH_take (i := 5) (v := .agg #[.bool (frQ q).1.1, .slice A3 (frQ q).1.2.length c3, .bool (frQ q).2.1, .slice B3 (frQ q).2.2.length d3]) rfl (by kernel_rfl) (by kernel_rfl) (by kernel_rfl) (fun _ _ _ h => h) (Or.inl ⟨by rfl, by intro w hSw; (try dsimp only at hSw); go_simp⟩) (by assumption) ?_
              (try simp only [Act.put, List.getElem_toArray, List.getElem_cons_zero, List.getElem_cons_succ, List.setIfInBounds_toArray, List.set_cons_zero, List.set_cons_succ])
              refine wpAnyH_take (i := 6) (v := .int .i64 0) rfl (by kernel_rfl) (by kernel_rfl) (by kernel_rfl) (fun _ _ _ h => h) (Or.inl ⟨by rfl, by intro w hSw; (try dsimp only at hSw); go_simp⟩) (by assumption) ?_
              (try simp only [Act.put, List.getElem_toArray, List.getElem_cons_zero, List.getElem_cons_succ, List.setIfInBounds_toArray, List.set_cons_zero, List.set_cons_succ])
              refine wpAnyH_ready (rs := [8]) (by kernel_rfl) (by simp) ?_
              refine AllReadyH.cons rfl (fun K hK => ?_) AllReadyH.nil
              have hne : gw ≠ v1.heap.size := Nat.ne_of_lt (by omega)
              have hge : w.heap.size ≤ v1.heap.size := by omega
              obtain ⟨P1, P2, P3, P4, P5⟩ := put_frac NB_v6.out KW_v6.out hne SA_v6.out SB_v6.out HB_v6.out hge
              have f0 := NB_v6.out.frozen 0
              have f1 := NB_v6.out.frozen 1
              have f2 := NB_v6.out.frozen 2
              have f3 := NB_v6.out.frozen 3
              have cf0 := NB_v6.out.at_ 0 rfl
              have cf1 := NB_v6.out.at_ 1 rfl
              have cf2 := NB_v6.out.at_ 2 rfl
              have cf3 := NB_v6.out.at_ 3 rfl
              go_simp
              refine hK.out _ _ ⟨P2.at_ 0 rfl, P2.at_ 1 rfl⟩ (fun hHeld2 => ?_)
              clear hK K hHeld
              have hHeld := hHeld2
              clear hHeld2
              (try simp only [Act.put, List.getElem_toArray, List.getElem_cons_zero, List.getElem_cons_succ, List.setIfInBounds_toArray, List.set_cons_zero, List.set_cons_succ])
              refine wpAnyH_take (i := 9) (v := .int .i64 0) rfl (by kernel_rfl) (by kernel_rfl) (by kernel_rfl) (fun _ _ _ h => h) (Or.inl ⟨by rfl, by intro w hSw; (try dsimp only at hSw); go_simp⟩) (by assumption) ?_
              (try simp only [Act.put, List.getElem_toArray, List.getElem_cons_zero, List.getElem_cons_succ, List.setIfInBounds_toArray, List.set_cons_zero, List.set_cons_succ])
              refine wpAnyH_done (by kernel_rfl) ?_ _
              go_wp2_with fail
              go_meet
              exact ⟨v1.heap.size, A3, c3, B3, d3, rfl, rfl, P1, P3, P4, P5⟩
          · skip
            have hb := blw1 D (.cells #[.bool false, .slice none 0 0, .bool false, .slice none 0 0] 59)
            obtain ⟨v8, hv8⟩ : ∃ V, V = D.alloc (.cells #[.bool false, .slice none 0 0, .bool false, .slice none 0 0] 59) := ⟨_, rfl⟩
            rw [← hv8] at hb
            have KW_v8 := Lib.hid ((KW_D).out.keep hb)
            have HB_v8 := Lib.hid (below_mono (HB_D).out hb)
            have NB_v8 : Hid (BlkV v8 D.heap.size 59 #[.bool false, .slice none 0 0, .bool false, .slice none 0 0]) := by rw [hv8]; exact BlkV.fresh rfl _ _
            have hlv8 : D.heap.size < v8.heap.size := NB_v8.out.lt
            go_simp
            rw [← hv8]
            refine hK.out _ _ (⟨KW_v8.out.k.at_ 0 rfl, KW_v8.out.k.at_ 1 rfl⟩) (fun hHeld2 => ?_)
            clear hK K hHeld
            have hHeld := hHeld2
            clear hHeld2
            (try simp only [Act.put, List.getElem_toArray, List.getElem_cons_zero, List.getElem_cons_succ, List.setIfInBounds_toArray, List.set_cons_zero, List.set_cons_succ])
            clear hb hv8
            refine wpAnyH_ready (rs := [2]) (by kernel_rfl) (by simp) ?_
            refine AllReadyH.cons rfl (fun K hK => ?_) AllReadyH.nil
            go_simp
            (with_reducible refine (from_any long v8 m3 m4).mono ?_)
            rintro e v9 ⟨A2, c2, rfl, hs2, hb⟩
            (try dsimp only)
            have KW_v9 := Lib.hid ((KW_v8).out.keep hb)
            have HB_v9 := Lib.hid (below_mono (HB_v8).out hb)
            have NB_v9 := Lib.hid ((NB_v8).out.keep hb)
            have SM_v9 := Lib.hid hs2
            have hlv9 : gw < v9.heap.size := KW_v9.out.k.lt
            have hsv9 := HB_v9.out.size
            clear hs2
            clear hb
            (try go_wp2_with fail)
            refine hK.out _ _ (⟨KW_v9.out.k.at_ 0 rfl, KW_v9.out.k.at_ 1 rfl⟩) (fun hHeld2 => ?_)
            clear hK K hHeld
            have hHeld := hHeld2
            clear hHeld2
            (try simp only [Act.put, List.getElem_toArray, List.getElem_cons_zero, List.getElem_cons_succ, List.setIfInBounds_toArray, List.set_cons_zero, List.set_cons_succ])
            refine wpAnyH_ready (rs := [3]) (by kernel_rfl) (by simp) ?_
            refine AllReadyH.cons rfl (fun K hK => ?_) AllReadyH.nil
            go_simp
            (with_reducible refine (MK.out A2 c2 v9 KW_v9.out.s SM_v9.out).mono ?_)
            rintro e v10 ⟨A3, c3, B3, d3, rfl, hs3, ht3, hb⟩
            (try dsimp only)
            have KW_v10 := Lib.hid ((KW_v9).out.keep hb)
            have HB_v10 := Lib.hid (below_mono (HB_v9).out hb)
            have NB_v10 := Lib.hid ((NB_v9).out.keep hb)
            have SM_v10 := Lib.hid ((SM_v9).out.below hb)
            have SA_v10 := Lib.hid hs3
            have SB_v10 := Lib.hid ht3
            have hlv10 : gw < v10.heap.size := KW_v10.out.k.lt
            have hsv10 := HB_v10.out.size
            clear hs3 ht3
            clear hb
            (try go_wp2_with fail)
            refine hK.out _ _ (⟨KW_v10.out.k.at_ 0 rfl, KW_v10.out.k.at_ 1 rfl⟩) (fun hHeld2 => ?_)
            clear hK K hHeld
            have hHeld := hHeld2
            clear hHeld2
            (try simp only [Act.put, List.getElem_toArray, List.getElem_cons_zero, List.getElem_cons_succ, List.setIfInBounds_toArray, List.set_cons_zero, List.set_cons_succ])
            refine wpAnyH_take (i := 4) (v := .tuple #[.agg #[.bool (frQ q).1.1, .slice A3 (frQ q).1.2.length c3, .bool (frQ q).2.1, .slice B3 (frQ q).2.2.length d3], .int .i64 0]) rfl (by kernel_rfl) (by kernel_rfl) (by kernel_rfl) (fun _ _ _ h => h) (Or.inl ⟨by rfl, by intro w hSw; (try dsimp only at hSw); go_simp⟩) (by assumption) ?_
            (try simp only [Act.put, List.getElem_toArray, List.getElem_cons_zero, List.getElem_cons_succ, List.setIfInBounds_toArray, List.set_cons_zero, List.set_cons_succ])
            refine wpAnyH_take (i := 5) (v := .agg #[.bool (frQ q).1.1, .slice A3 (frQ q).1.2.length c3, .bool (frQ q).2.1, .slice B3 (frQ q).2.2.length d3]) rfl (by kernel_rfl) (by kernel_rfl) (by kernel_rfl) (fun _ _ _ h => h) (Or.inl ⟨by rfl, by intro w hSw; (try dsimp only at hSw); go_simp⟩) (by assumption) ?_
            (try simp only [Act.put, List.getElem_toArray, List.getElem_cons_zero, List.getElem_cons_succ, List.setIfInBounds_toArray, List.set_cons_zero, List.set_cons_succ])
            refine wpAnyH_take (i := 6) (v := .int .i64 0) rfl (by kernel_rfl) (by kernel_rfl) (by kernel_rfl) (fun _ _ _ h => h) (Or.inl ⟨by rfl, by intro w hSw; (try dsimp only at hSw); go_simp⟩) (by assumption) ?_
            (try simp only [Act.put, List.getElem_toArray, List.getElem_cons_zero, List.getElem_cons_succ, List.setIfInBounds_toArray, List.set_cons_zero, List.set_cons_succ])
            refine wpAnyH_ready (rs := [8]) (by kernel_rfl) (by simp) ?_
            refine AllReadyH.cons rfl (fun K hK => ?_) AllReadyH.nil
            have hne : gw ≠ D.heap.size := Nat.ne_of_lt (by omega)
            have hge : w.heap.size ≤ D.heap.size := by omega
            obtain ⟨P1, P2, P3, P4, P5⟩ := put_frac NB_v10.out KW_v10.out hne SA_v10.out SB_v10.out HB_v10.out hge
            have f0 := NB_v10.out.frozen 0
            have f1 := NB_v10.out.frozen 1
            have f2 := NB_v10.out.frozen 2
            have f3 := NB_v10.out.frozen 3
            have cf0 := NB_v10.out.at_ 0 rfl
            have cf1 := NB_v10.out.at_ 1 rfl
            have cf2 := NB_v10.out.at_ 2 rfl
            have cf3 := NB_v10.out.at_ 3 rfl
            go_simp
            refine hK.out _ _ ⟨P2.at_ 0 rfl, P2.at_ 1 rfl⟩ (fun hHeld2 => ?_)
            clear hK K hHeld
            have hHeld := hHeld2
            clear hHeld2
            (try simp only [Act.put, List.getElem_toArray, List.getElem_cons_zero, List.getElem_cons_succ, List.setIfInBounds_toArray, List.set_cons_zero, List.set_cons_succ])
            refine wpAnyH_take (i := 9) (v := .int .i64 0) rfl (by kernel_rfl) (by kernel_rfl) (by kernel_rfl) (fun _ _ _ h => h) (Or.inl ⟨by rfl, by intro w hSw; (try dsimp only at hSw); go_simp⟩) (by assumption) ?_
            (try simp only [Act.put, List.getElem_toArray, List.getElem_cons_zero, List.getElem_cons_succ, List.setIfInBounds_toArray, List.set_cons_zero, List.set_cons_succ])
            refine wpAnyH_done (by kernel_rfl) ?_ _
            go_wp2_with fail
            go_meet
            exact ⟨D.heap.size, A3, c3, B3, d3, rfl, rfl, P1, P3, P4, P5⟩
        case rest =>
          clear KW HB hlw MK m3 m4
          obtain ⟨gq, A5, c5, B5, d5, rfl, rfl, k, sa, sb, hb⟩ := hcut
          have SA := Lib.hid sa
          have SB := Lib.hid sb
          have HB := Lib.hid hb
          clear sa sb hb
          have e0 := k.at_ 0 rfl
          have e1 := k.at_ 1 rfl
          have e2 := k.at_ 2 rfl
          have e3 := k.at_ 3 rfl
          go_wp2_with fail
          refine (ceil_q FQ.out (by omega) A5 B5 c5 d5 _ SA.out SB.out).mono ?_
          rintro e w5 ⟨A6, c6, rfl, hs6, hb⟩
          dsimp only
          replace HB := Lib.hid (below_mono HB.out hb)
          have S6 := Lib.hid hs6
          clear hb hs6 e0 e1 e2 e3 k SA SB FQ
          go_upto_region 10 with fail
          generalize hwx : w5.alloc (.cells #[.bool (wOf q.ceil).1, .slice A6 (wOf q.ceil).2.length c6] 57) = w6 at *
          have K6 : Hid (BlkV w6 w5.heap.size 57 #[.bool (wOf q.ceil).1, .slice A6 (wOf q.ceil).2.length c6]) := by rw [← hwx]; exact BlkV.fresh rfl _ _
          replace S6 : Hid (Sl w6 A6 (wOf q.ceil).2 c6) := by rw [← hwx]; exact S6.out.alloc _
          replace HB : Hid (Below w.heap.size w w6) := by rw [← hwx]; exact below_mono HB.out (blw1 _ _)
          clear hwx
          have e0 := K6.out.at_ 0 rfl
          have e1 := K6.out.at_ 1 rfl
          go_wp2_with fail
          refine (int_z (by omega) (by omega) A6 c6 _ S6.out).mono ?_
          rintro e w7 ⟨rfl, hb⟩
          dsimp only
          replace HB := Lib.hid (below_mono HB.out hb)
          clear hb e0 e1 K6 S6
          go_wp2
          go_ret
          exact ⟨by rw [SIe.out]; rfl, HB.out⟩

end Go.Proofs.Ytghallnooijfhaa

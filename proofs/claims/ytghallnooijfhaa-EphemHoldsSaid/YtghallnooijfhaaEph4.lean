import Derived.Test.YtghallnooijfhaaEph2
import Derived.Test.YtghallnooijfhaaEphI
import Derived.Test.YtghallnooijfhaaMemV
import Derived.Deep.CutRange
namespace Go.Proofs.Ytghallnooijfhaa
open Go.RowKit
attribute [local go_sem ↓] Go.wp_at_zero Go.wp_at_succ
/-- How many limbs the numbers of clenshaw have at most. -/
def limB : Nat → Nat × Nat
  | 0 => (1, 1)
  | j + 1 => ((limB j).1 + (limB j).2 + 9, (limB j).1)

theorem few_zero : Few 1 (0 : Rat) := ⟨by decide, by decide⟩

theorem clen_few {c : Nat → Rat} {y : Rat} {n : Nat} (hc : ∀ k, k < n → Few 2 (c k)) (hy : Few 5 y) : ∀ j, j ≤ n → (limB j).1 + (limB j).2 ≤ 4000 → Few (limB j).1 (clen c y n j).1 ∧ Few (limB j).2 (clen c y n j).2
  | 0, _, _ => ⟨few_zero, few_zero⟩
  | j + 1, hj, hk => by
    simp only [limB] at hk
    obtain ⟨h1, h2⟩ := clen_few hc hy j (by omega) (by omega)
    have m1 := (q_mul hy h1 (by omega)).2
    have m2 := (q_add (hc (n - 1 - j) (by omega)) m1 (by omega)).2
    have m3 := (q_sub m2 h2 (by omega)).2
    exact ⟨m3.up (by simp only [limB]; omega), h1⟩

theorem clen_few6 {c : Nat → Rat} {y : Rat} {n : Nat} (hn : n ≤ 6) (hc : ∀ k, k < n → Few 2 (c k)) (hy : Few 5 y) (j : Nat) (hj : j ≤ n) : Few 400 (clen c y n j).1 ∧ Few 400 (clen c y n j).2 := by
  have hj6 : j ≤ 6 := by omega
  have hb : ∀ j, j ≤ 6 → (limB j).1 ≤ 400 ∧ (limB j).2 ≤ 400 := by decide
  obtain ⟨b1, b2⟩ := hb j hj6
  obtain ⟨h1, h2⟩ := clen_few hc hy j hj (by omega)
  exact ⟨h1.up b1, h2.up b2⟩

theorem SlI.atE {w : World} {B : Nat} {A : Option Addr} {l : List Int} {c k : Nat} (h : SlI w B A l c) (hk : k < l.length) : ∃ b o, A = some ⟨b, o, none⟩ ∧ b < B ∧ w.cell? ⟨b, o + k, none⟩ = some (.int .i64 (l.getD k 0)) := by
  obtain ⟨b, o, e, hb, hc⟩ := h.at_ hk
  exact ⟨b, o, e, hb, by rw [hc, List.getD_eq_getElem?_getD, List.getElem?_eq_getElem hk]; rfl⟩

theorem SlI.bdD {w : World} {B : Nat} {A : Option Addr} {l : List Int} {c : Nat} (h : SlI w B A l c) (k : Nat) : -9223372036854775808 ≤ l.getD k 0 ∧ l.getD k 0 ≤ 9223372036854775807 := by
  rw [List.getD_eq_getElem?_getD]
  by_cases hk : k < l.length
  · rw [List.getElem?_eq_getElem hk]; exact h.lim.at_ hk
  · rw [List.getElem?_eq_none (by omega)]; simp

set_option maxRecDepth 100000 in
set_option maxHeartbeats 8000000 in
theorem vclo_q (l : List Int) (A : Option Addr) (cc B gb k : Nat) (w : World) (hg : BlkV w gb 28 #[.slice A l.length cc]) (hs : SlI w B A l cc) (hk : k < l.length) :
    Calls Try.prog 47 #[.int .i64 k, .pointer (some ⟨gb, 0, none⟩)] w (FRes1 (frQ (cfQ l k)) w) := by
  obtain ⟨b, o, rfl, -, hx⟩ := hs.atE hk
  have hm := hs.len
  have q0 : w.cell? ⟨gb, 0, none⟩ = some (.slice (some ⟨b, o, none⟩) l.length cc) := hg.at_ 0 rfl
  have hgl := hg.lt
  have hbl : b < w.heap.size := lt_of_cell (a := ⟨b, o + k, none⟩) hx
  have hW : Hid (∀ V, Calls Try.prog 35 #[.int .i64 (l.getD k 0)] V (FRes1 (frQ (cfQ l k)) V)) := fun V => ewhole_q (l.getD k 0) (hs.bdD k).1 (hs.bdD k).2 V
  clear hg hs
  generalize frQ (cfQ l k) = R at *
  obtain ⟨⟨nx, lx⟩, ⟨ny, ly⟩⟩ := R
  generalize l.getD k 0 = y at *
  have B0 : Hid (Below w.heap.size w w) := Below.refl _ _
  go_enter Try.func47, Try.ntmps47
  go_wp2_with fail
  refine (hW.out _).mono ?_
  rintro e w1 ⟨A5, c5, B5, d5, rfl, hs5, ht5, hb⟩
  (try dsimp only at hs5 ht5)
  (try dsimp only)
  have Fo : Hid (Ff w1 w.heap.size) := Ff.keep (Ff.fresh (by simp) _ _) (Cf.fresh (by simp) _ _ _ _ _ _ _ _ _) hb
  have Ko : Hid (Cf w1 w.heap.size false none 0 0 false none 0 0) := Cf.keep (Cf.fresh (by simp) _ _ _ _ _ _ _ _ _) hb
  have B1 : Hid (Below w.heap.size w w1) := below_mono (blw1 _ _) hb
  clear hb
  obtain ⟨qo0, qo1, qo2, qo3⟩ := Ko.out
  obtain ⟨fo0, fo1, fo2, fo3⟩ := Fo.out
  have Sx := Lib.hid hs5
  have Sy := Lib.hid ht5
  go_wp2
  exact bodyPost_ret (v := .agg #[.bool nx, .slice A5 lx.length c5, .bool ny, .slice B5 ly.length d5]) (by simp [results, Try.results47, go_sem, qo0, qo1, qo2, qo3]) rfl (fres1_store (r := ((nx, lx), (ny, ly))) Sx.out Sy.out Ko.out B1.out (Nat.le_refl _) _ _ _ _)

/-- What holds in a region that draws. -/
structure VI1 (A : Option Addr) (n : Nat) (cc : Nat) (gb : Nat) (x : Rat) (Ax : Option Addr) (cx : Nat) (Bx : Option Addr) (dx : Nat) (p : Rat) (q : Rat) (w0 : World) (l : Array Bool) (w : World) (x0 x1 x2 x3 x4 x5 x6 x7 x8 x9 x10 x11 x12 x13 : Value) : Prop where
  hb : Below w0.heap.size w0 w
  p0 : l.getD 0 false = true → x0 = .slice A n cc
  p1 : l.getD 1 false = true → x1 = .int .i64 n
  p2 : l.getD 2 false = true → x2 = .func (.func 47) #[] #[.pointer (some ⟨gb, 0, none⟩)]
  p3 : l.getD 3 false = true → x3 = .agg #[.bool (frQ x).1.1, .slice Ax (frQ x).1.2.length cx, .bool (frQ x).2.1, .slice Bx (frQ x).2.2.length dx]
  p4 : l.getD 4 false = true → x4 = .agg #[.bool (frQ x).1.1, .slice Ax (frQ x).1.2.length cx, .bool (frQ x).2.1, .slice Bx (frQ x).2.2.length dx]
  p5 : l.getD 5 false = true → IsF w x5 (x + x)
  p6 : l.getD 6 false = true → Is2 w x6 p q
  p7 : l.getD 7 false = true → Is2 w x7 p q
  p8 : l.getD 8 false = true → IsF w x8 p
  p9 : l.getD 9 false = true → IsF w x9 q
  p10 : l.getD 10 false = true → IsB w0.heap.size w x10
  p11 : l.getD 11 false = true → IsB w0.heap.size w x11
  p12 : l.getD 12 false = true → IsS w x10 p
  p13 : l.getD 13 false = true → IsS w x11 q
  s12 : l.getD 12 false = true → l.getD 10 false = true
  s13 : l.getD 13 false = true → l.getD 11 false = true
  ne10_11 : l.getD 10 false = true → l.getD 11 false = true → x10 ≠ x11

set_option maxRecDepth 100000 in
set_option maxHeartbeats 8000000 in
theorem value_q (l : List Int) (A : Option Addr) (cc : Nat) (x : Rat) (Ax Bx : Option Addr) (cx dx B : Nat) (w : World) (hl : SlI w B A l cc) (h0 : 0 < l.length) (h6 : l.length ≤ 6) (hx : Few 2 x) (sx : Sl w Ax (frQ x).1.2 cx) (tx : Sl w Bx (frQ x).2.2 dx) :
    Calls Try.prog 30 #[.slice A l.length cc, .agg #[.bool (frQ x).1.1, .slice Ax (frQ x).1.2.length cx, .bool (frQ x).2.1, .slice Bx (frQ x).2.2.length dx]] w (FRes1 (frQ (chS (cfQ l) (chT x) l.length)) w) := by
  have hc2 : ∀ k, Few 2 (cfQ l k) := fun k => few_two (hl.bdD k).1 (hl.bdD k).2
  have h5 : Few 5 (x + x) := (q_add hx hx (by omega)).2
  have hF := clen_few6 (c := cfQ l) (y := x + x) (n := l.length) h6 (fun k _ => hc2 k) h5
  have hEQ := value_eq (cfQ l) x h0
  rw [← hEQ]
  have FP := (hF (l.length - 1) (by omega)).1
  have FQ := (hF (l.length - 1) (by omega)).2
  have FX := Lib.hid hx
  have HL := Lib.hid hl
  have Sx := Lib.hid sx
  have Tx := Lib.hid tx
  have HCLg : Hid (∀ (V0 V : World) (A1 B1 : Option Addr) (c1 d1 : Nat) (gb : Nat), BlkV V0 gb 28 #[.slice A l.length cc] → SlI V0 B A l cc → Below V0.heap.size V0 V → Sl V A1 (frQ (x + x)).1.2 c1 → Sl V B1 (frQ (x + x)).2.2 d1 →
      Calls Try.prog 36 #[.int .i64 l.length, .func (.func 47) #[] #[.pointer (some ⟨gb, 0, none⟩)], .agg #[.bool (frQ (x + x)).1.1, .slice A1 (frQ (x + x)).1.2.length c1, .bool (frQ (x + x)).2.1, .slice B1 (frQ (x + x)).2.2.length d1]] V (F2Res (clen (cfQ l) (x + x) l.length (l.length - 1)).1 (clen (cfQ l) (x + x) l.length (l.length - 1)).2 V)) := fun V0 V A1 B1 c1 d1 gb hg hs hb s t =>
    clen_v l.length h0 (by omega) gb (cfQ l) (x + x) V A1 B1 c1 d1 s t (fun k V' hb' hk0 hk => vclo_q l A cc B gb k V' ((hg.keep hb).keep hb') ((hs.below hb).below hb') hk) (fun k _ _ => hc2 k) h5 (fun j hj => hF j (by omega))
  have FC0 := hc2 0
  clear hc2 hF hEQ hl hx sx tx
  generalize (clen (cfQ l) (x + x) l.length (l.length - 1)).1 = p at *
  generalize (clen (cfQ l) (x + x) l.length (l.length - 1)).2 = q at *
  go_enter Try.func30, Try.ntmps30
  go_wp2_with (fail)
  generalize hwz : ((w.alloc (.cells #[.slice A l.length cc] 28)).alloc (.cells #[.bool (frQ x).1.1, .slice Ax (frQ x).1.2.length cx, .bool (frQ x).2.1, .slice Bx (frQ x).2.2.length dx] 59)).alloc (.cells #[.bool false, .slice none 0 0, .bool false, .slice none 0 0] 59) = wz at *
  have KC : Hid (BlkV wz w.heap.size 28 #[.slice A l.length cc]) := by rw [← hwz]; exact ((BlkV.fresh rfl _ _).alloc _).alloc _
  have KX : Hid (BxQ wz (w.heap.size + 1) x Ax cx Bx dx) := by rw [← hwz]; exact (BxQ.fresh (by simp) (Sx.out.alloc _) (Tx.out.alloc _)).alloc _
  have KO : Hid (Cf wz (w.heap.size + 2) false none 0 0 false none 0 0) := by rw [← hwz]; exact Cf.fresh (by simp) _ _ _ _ _ _ _ _ _
  have FO : Hid (Ff wz (w.heap.size + 2)) := by rw [← hwz]; exact Ff.fresh (by simp) _ _
  have HB : Hid (Below w.heap.size w wz) := by rw [← hwz]; exact below_mono (below_mono (blw1 _ _) (blw1 _ _)) (blw1 _ _)
  have HS : Hid (SlI wz B A l cc) := HL.out.below HB.out
  clear hwz Sx Tx HL
  have HCL : Hid (∀ (V : World) (A1 B1 : Option Addr) (c1 d1 : Nat), Sl V A1 (frQ (x + x)).1.2 c1 → Sl V B1 (frQ (x + x)).2.2 d1 → Below wz.heap.size wz V → Calls Try.prog 36 #[.int .i64 l.length, .func (.func 47) #[] #[.pointer (some ⟨w.heap.size, 0, none⟩)], .agg #[.bool (frQ (x + x)).1.1, .slice A1 (frQ (x + x)).1.2.length c1, .bool (frQ (x + x)).2.1, .slice B1 (frQ (x + x)).2.2.length d1]] V (F2Res p q V)) := fun V A1 B1 c1 d1 s t hb => HCLg.out wz V A1 B1 c1 d1 _ KC.out HS.out hb s t
  clear HCLg
  go_cut [5, 6] from 7 to 16 (fun s5 s6 wx => ∃ (g1 : Nat) (A1 : Option Addr) (c1 : Nat) (B1 : Option Addr) (d1 : Nat) (g2 : Nat) (A2 : Option Addr) (c2 : Nat) (B2 : Option Addr) (d2 : Nat), s5 = .pointer (some ⟨g1, 0, none⟩) ∧ s6 = .pointer (some ⟨g2, 0, none⟩) ∧ BxQ wx g1 p A1 c1 B1 d1 ∧ BxQ wx g2 q A2 c2 B2 d2 ∧ Below wz.heap.size wz wx)
  case first =>
    refine wp_region_I' (by kernel_rfl) (by kernel_rfl) (fun a0 listed a wv => ∃ x0 x1 x2 x3 x4 x5 x6 x7 x8 x9 x10 x11 x12 x13 : Value, a = ((((((((((((a0.put (some 8) x0).put (some 9) x1).put (some 10) x2).put (some 11) x3).put (some 12) x4).put (some 13) x5).put (some 14) x6).put (some 7) x7).put (some 15) x8).put (some 16) x9).put (some 5) x10).put (some 6) x11) ∧ VI1 A l.length cc w.heap.size x Ax cx Bx dx p q wz listed wv x0 x1 x2 x3 x4 x5 x6 x7 x8 x9 x10 x11 x12 x13) ?h0 ?hstep ?hend
    case h0 =>
      intro a0
      exact ⟨a0.tmps.getD 8 undef, a0.tmps.getD 9 undef, a0.tmps.getD 10 undef, a0.tmps.getD 11 undef, a0.tmps.getD 12 undef, a0.tmps.getD 13 undef, a0.tmps.getD 14 undef, a0.tmps.getD 7 undef, a0.tmps.getD 15 undef, a0.tmps.getD 16 undef, a0.tmps.getD 5 undef, a0.tmps.getD 6 undef, undef, undef, by simp only [put_getD], (Below.refl _ _).drew, (fun h => by rw [getD_replicate_false] at h; cases h), (fun h => by rw [getD_replicate_false] at h; cases h), (fun h => by rw [getD_replicate_false] at h; cases h), (fun h => by rw [getD_replicate_false] at h; cases h), (fun h => by rw [getD_replicate_false] at h; cases h), (fun h => by rw [getD_replicate_false] at h; cases h), (fun h => by rw [getD_replicate_false] at h; cases h), (fun h => by rw [getD_replicate_false] at h; cases h), (fun h => by rw [getD_replicate_false] at h; cases h), (fun h => by rw [getD_replicate_false] at h; cases h), (fun h => by rw [getD_replicate_false] at h; cases h), (fun h => by rw [getD_replicate_false] at h; cases h), (fun h => by rw [getD_replicate_false] at h; cases h), (fun h => by rw [getD_replicate_false] at h; cases h), (fun h => by rw [getD_replicate_false] at h; cases h), (fun h => by rw [getD_replicate_false] at h; cases h), (fun h => by rw [getD_replicate_false] at h; cases h)⟩
    case hstep =>
      intro listed a' w' hI i o hi hun hd
      obtain ⟨x0, x1, x2, x3, x4, x5, x6, x7, x8, x9, x10, x11, x12, x13, rfl, H⟩ := hI
      have hlt := (Array.getElem?_eq_some_iff.1 hi).1
      have hlt2 : i < 14 := hlt
      clear hlt
      obtain rfl | rfl | rfl | rfl | rfl | rfl | rfl | rfl | rfl | rfl | rfl | rfl | rfl | rfl : i = 0 ∨ i = 1 ∨ i = 2 ∨ i = 3 ∨ i = 4 ∨ i = 5 ∨ i = 6 ∨ i = 7 ∨ i = 8 ∨ i = 9 ∨ i = 10 ∨ i = 11 ∨ i = 12 ∨ i = 13 := by omega
      · skip
        clear hd hlt2
        have ho := hi
        simp only [List.getElem?_toArray, List.getElem?_cons_zero, Option.some.injEq] at ho
        subst ho
        refine wpOp_shut hi (fun K' hK => ?_)
        clear hi
        rw [if_pos (by rfl)]
        (try simp only [Act.put])
        have q0 : w'.cell? ⟨w.heap.size, 0, none⟩ = some (.slice A l.length cc) := (KC.out.below H.hb KC.out.lt).at_ 0 rfl
        go_simp
        exact hK.out _ _ ⟨.slice A l.length cc, x1, x2, x3, x4, x5, x6, x7, x8, x9, x10, x11, x12, x13, by simp only [Act.put, List.setIfInBounds_toArray, List.set_cons_zero, List.set_cons_succ], H.hb, fun _ => rfl, fun h => H.p1 (by rwa [Go.getD_set_ne false (by decide)] at h), fun h => H.p2 (by rwa [Go.getD_set_ne false (by decide)] at h), fun h => H.p3 (by rwa [Go.getD_set_ne false (by decide)] at h), fun h => H.p4 (by rwa [Go.getD_set_ne false (by decide)] at h), fun h => H.p5 (by rwa [Go.getD_set_ne false (by decide)] at h), fun h => H.p6 (by rwa [Go.getD_set_ne false (by decide)] at h), fun h => H.p7 (by rwa [Go.getD_set_ne false (by decide)] at h), fun h => H.p8 (by rwa [Go.getD_set_ne false (by decide)] at h), fun h => H.p9 (by rwa [Go.getD_set_ne false (by decide)] at h), fun h => H.p10 (by rwa [Go.getD_set_ne false (by decide)] at h), fun h => H.p11 (by rwa [Go.getD_set_ne false (by decide)] at h), fun h => H.p12 (by rwa [Go.getD_set_ne false (by decide)] at h), fun h => H.p13 (by rwa [Go.getD_set_ne false (by decide)] at h), fun h => by rw [Go.getD_set_ne false (by decide)] at h ⊢; exact H.s12 h, fun h => by rw [Go.getD_set_ne false (by decide)] at h ⊢; exact H.s13 h, fun h h' => H.ne10_11 (by rwa [Go.getD_set_ne false (by decide)] at h) (by rwa [Go.getD_set_ne false (by decide)] at h')⟩
      · skip
        have d0 := dep_of (d := 0) (by kernel_rfl) hi hd
        have y0 := H.p0 d0
        subst y0
        clear hd hlt2
        have ho := hi
        simp only [List.getElem?_toArray, List.getElem?_cons_succ, List.getElem?_cons_zero, Option.some.injEq] at ho
        subst ho
        refine wpOp_shut hi (fun K' hK => ?_)
        clear hi
        rw [if_pos (by rfl)]
        (try simp only [Act.put])
        go_simp
        exact hK.out _ _ ⟨.slice A l.length cc, .int .i64 l.length, x2, x3, x4, x5, x6, x7, x8, x9, x10, x11, x12, x13, by simp only [Act.put, List.setIfInBounds_toArray, List.set_cons_zero, List.set_cons_succ], H.hb, fun h => H.p0 (by rwa [Go.getD_set_ne false (by decide)] at h), fun _ => rfl, fun h => H.p2 (by rwa [Go.getD_set_ne false (by decide)] at h), fun h => H.p3 (by rwa [Go.getD_set_ne false (by decide)] at h), fun h => H.p4 (by rwa [Go.getD_set_ne false (by decide)] at h), fun h => H.p5 (by rwa [Go.getD_set_ne false (by decide)] at h), fun h => H.p6 (by rwa [Go.getD_set_ne false (by decide)] at h), fun h => H.p7 (by rwa [Go.getD_set_ne false (by decide)] at h), fun h => H.p8 (by rwa [Go.getD_set_ne false (by decide)] at h), fun h => H.p9 (by rwa [Go.getD_set_ne false (by decide)] at h), fun h => H.p10 (by rwa [Go.getD_set_ne false (by decide)] at h), fun h => H.p11 (by rwa [Go.getD_set_ne false (by decide)] at h), fun h => H.p12 (by rwa [Go.getD_set_ne false (by decide)] at h), fun h => H.p13 (by rwa [Go.getD_set_ne false (by decide)] at h), fun h => by rw [Go.getD_set_ne false (by decide)] at h ⊢; exact H.s12 h, fun h => by rw [Go.getD_set_ne false (by decide)] at h ⊢; exact H.s13 h, fun h h' => H.ne10_11 (by rwa [Go.getD_set_ne false (by decide)] at h) (by rwa [Go.getD_set_ne false (by decide)] at h')⟩
      · skip
        clear hd hlt2
        have ho := hi
        simp only [List.getElem?_toArray, List.getElem?_cons_succ, List.getElem?_cons_zero, Option.some.injEq] at ho
        subst ho
        refine wpOp_shut hi (fun K' hK => ?_)
        clear hi
        rw [if_pos (by rfl)]
        (try simp only [Act.put])
        go_simp
        exact hK.out _ _ ⟨x0, x1, .func (.func 47) #[] #[.pointer (some ⟨w.heap.size, 0, none⟩)], x3, x4, x5, x6, x7, x8, x9, x10, x11, x12, x13, by simp only [Act.put, List.setIfInBounds_toArray, List.set_cons_zero, List.set_cons_succ], H.hb, fun h => H.p0 (by rwa [Go.getD_set_ne false (by decide)] at h), fun h => H.p1 (by rwa [Go.getD_set_ne false (by decide)] at h), fun _ => rfl, fun h => H.p3 (by rwa [Go.getD_set_ne false (by decide)] at h), fun h => H.p4 (by rwa [Go.getD_set_ne false (by decide)] at h), fun h => H.p5 (by rwa [Go.getD_set_ne false (by decide)] at h), fun h => H.p6 (by rwa [Go.getD_set_ne false (by decide)] at h), fun h => H.p7 (by rwa [Go.getD_set_ne false (by decide)] at h), fun h => H.p8 (by rwa [Go.getD_set_ne false (by decide)] at h), fun h => H.p9 (by rwa [Go.getD_set_ne false (by decide)] at h), fun h => H.p10 (by rwa [Go.getD_set_ne false (by decide)] at h), fun h => H.p11 (by rwa [Go.getD_set_ne false (by decide)] at h), fun h => H.p12 (by rwa [Go.getD_set_ne false (by decide)] at h), fun h => H.p13 (by rwa [Go.getD_set_ne false (by decide)] at h), fun h => by rw [Go.getD_set_ne false (by decide)] at h ⊢; exact H.s12 h, fun h => by rw [Go.getD_set_ne false (by decide)] at h ⊢; exact H.s13 h, fun h h' => H.ne10_11 (by rwa [Go.getD_set_ne false (by decide)] at h) (by rwa [Go.getD_set_ne false (by decide)] at h')⟩
      · skip
        clear hd hlt2
        have ho := hi
        simp only [List.getElem?_toArray, List.getElem?_cons_succ, List.getElem?_cons_zero, Option.some.injEq] at ho
        subst ho
        refine wpOp_shut hi (fun K' hK => ?_)
        clear hi
        rw [if_pos (by rfl)]
        (try simp only [Act.put])
        have hkx := KX.out.keep H.hb
        have k0 : w'.cell? ⟨w.heap.size + 1, 0, none⟩ = some (.bool (frQ x).1.1) := hkx.k.1
        have k1 : w'.cell? ⟨w.heap.size + 1, 1, none⟩ = some (.slice Ax (frQ x).1.2.length cx) := hkx.k.2.1
        have k2 : w'.cell? ⟨w.heap.size + 1, 2, none⟩ = some (.bool (frQ x).2.1) := hkx.k.2.2.1
        have k3 : w'.cell? ⟨w.heap.size + 1, 3, none⟩ = some (.slice Bx (frQ x).2.2.length dx) := hkx.k.2.2.2
        clear hkx
        go_simp
        exact hK.out _ _ ⟨x0, x1, x2, .agg #[.bool (frQ x).1.1, .slice Ax (frQ x).1.2.length cx, .bool (frQ x).2.1, .slice Bx (frQ x).2.2.length dx], x4, x5, x6, x7, x8, x9, x10, x11, x12, x13, by simp only [Act.put, List.setIfInBounds_toArray, List.set_cons_zero, List.set_cons_succ], H.hb, fun h => H.p0 (by rwa [Go.getD_set_ne false (by decide)] at h), fun h => H.p1 (by rwa [Go.getD_set_ne false (by decide)] at h), fun h => H.p2 (by rwa [Go.getD_set_ne false (by decide)] at h), fun _ => rfl, fun h => H.p4 (by rwa [Go.getD_set_ne false (by decide)] at h), fun h => H.p5 (by rwa [Go.getD_set_ne false (by decide)] at h), fun h => H.p6 (by rwa [Go.getD_set_ne false (by decide)] at h), fun h => H.p7 (by rwa [Go.getD_set_ne false (by decide)] at h), fun h => H.p8 (by rwa [Go.getD_set_ne false (by decide)] at h), fun h => H.p9 (by rwa [Go.getD_set_ne false (by decide)] at h), fun h => H.p10 (by rwa [Go.getD_set_ne false (by decide)] at h), fun h => H.p11 (by rwa [Go.getD_set_ne false (by decide)] at h), fun h => H.p12 (by rwa [Go.getD_set_ne false (by decide)] at h), fun h => H.p13 (by rwa [Go.getD_set_ne false (by decide)] at h), fun h => by rw [Go.getD_set_ne false (by decide)] at h ⊢; exact H.s12 h, fun h => by rw [Go.getD_set_ne false (by decide)] at h ⊢; exact H.s13 h, fun h h' => H.ne10_11 (by rwa [Go.getD_set_ne false (by decide)] at h) (by rwa [Go.getD_set_ne false (by decide)] at h')⟩
      · skip
        clear hd hlt2
        have ho := hi
        simp only [List.getElem?_toArray, List.getElem?_cons_succ, List.getElem?_cons_zero, Option.some.injEq] at ho
        subst ho
        refine wpOp_shut hi (fun K' hK => ?_)
        clear hi
        rw [if_pos (by rfl)]
        (try simp only [Act.put])
        have hkx := KX.out.keep H.hb
        have k0 : w'.cell? ⟨w.heap.size + 1, 0, none⟩ = some (.bool (frQ x).1.1) := hkx.k.1
        have k1 : w'.cell? ⟨w.heap.size + 1, 1, none⟩ = some (.slice Ax (frQ x).1.2.length cx) := hkx.k.2.1
        have k2 : w'.cell? ⟨w.heap.size + 1, 2, none⟩ = some (.bool (frQ x).2.1) := hkx.k.2.2.1
        have k3 : w'.cell? ⟨w.heap.size + 1, 3, none⟩ = some (.slice Bx (frQ x).2.2.length dx) := hkx.k.2.2.2
        clear hkx
        go_simp
        exact hK.out _ _ ⟨x0, x1, x2, x3, .agg #[.bool (frQ x).1.1, .slice Ax (frQ x).1.2.length cx, .bool (frQ x).2.1, .slice Bx (frQ x).2.2.length dx], x5, x6, x7, x8, x9, x10, x11, x12, x13, by simp only [Act.put, List.setIfInBounds_toArray, List.set_cons_zero, List.set_cons_succ], H.hb, fun h => H.p0 (by rwa [Go.getD_set_ne false (by decide)] at h), fun h => H.p1 (by rwa [Go.getD_set_ne false (by decide)] at h), fun h => H.p2 (by rwa [Go.getD_set_ne false (by decide)] at h), fun h => H.p3 (by rwa [Go.getD_set_ne false (by decide)] at h), fun _ => rfl, fun h => H.p5 (by rwa [Go.getD_set_ne false (by decide)] at h), fun h => H.p6 (by rwa [Go.getD_set_ne false (by decide)] at h), fun h => H.p7 (by rwa [Go.getD_set_ne false (by decide)] at h), fun h => H.p8 (by rwa [Go.getD_set_ne false (by decide)] at h), fun h => H.p9 (by rwa [Go.getD_set_ne false (by decide)] at h), fun h => H.p10 (by rwa [Go.getD_set_ne false (by decide)] at h), fun h => H.p11 (by rwa [Go.getD_set_ne false (by decide)] at h), fun h => H.p12 (by rwa [Go.getD_set_ne false (by decide)] at h), fun h => H.p13 (by rwa [Go.getD_set_ne false (by decide)] at h), fun h => by rw [Go.getD_set_ne false (by decide)] at h ⊢; exact H.s12 h, fun h => by rw [Go.getD_set_ne false (by decide)] at h ⊢; exact H.s13 h, fun h h' => H.ne10_11 (by rwa [Go.getD_set_ne false (by decide)] at h) (by rwa [Go.getD_set_ne false (by decide)] at h')⟩
      · skip
        have d3 := dep_of (d := 3) (by kernel_rfl) hi hd
        have d4 := dep_of (d := 4) (by kernel_rfl) hi hd
        have y3 := H.p3 d3
        subst y3
        have y4 := H.p4 d4
        subst y4
        clear hd hlt2
        have ho := hi
        simp only [List.getElem?_toArray, List.getElem?_cons_succ, List.getElem?_cons_zero, Option.some.injEq] at ho
        subst ho
        refine wpOp_shut hi (fun K' hK => ?_)
        clear hi
        rw [if_pos (by rfl)]
        (try simp only [Act.put])
        go_simp
        (with_reducible refine (eadd_q FX.out FX.out (by omega) w' Ax Bx Ax Bx cx dx cx dx (KX.out.keep H.hb).s (KX.out.keep H.hb).t (KX.out.keep H.hb).s (KX.out.keep H.hb).t).mono ?_)
        rintro e w2 ⟨A5, c5, B5, e5, rfl, s5, t5, hb⟩
        (try dsimp only at s5)
        (try dsimp only at t5)
        (try dsimp only)
        (try go_wp2_with fail)
        exact hK.out _ _ ⟨x0, x1, x2, .agg #[.bool (frQ x).1.1, .slice Ax (frQ x).1.2.length cx, .bool (frQ x).2.1, .slice Bx (frQ x).2.2.length dx], .agg #[.bool (frQ x).1.1, .slice Ax (frQ x).1.2.length cx, .bool (frQ x).2.1, .slice Bx (frQ x).2.2.length dx], .agg #[.bool (frQ (x + x)).1.1, .slice A5 (frQ (x + x)).1.2.length c5, .bool (frQ (x + x)).2.1, .slice B5 (frQ (x + x)).2.2.length e5], x6, x7, x8, x9, x10, x11, x12, x13, by simp only [Act.put, List.setIfInBounds_toArray, List.set_cons_zero, List.set_cons_succ], below_mono H.hb hb, fun h => H.p0 (by rwa [Go.getD_set_ne false (by decide)] at h), fun h => H.p1 (by rwa [Go.getD_set_ne false (by decide)] at h), fun h => H.p2 (by rwa [Go.getD_set_ne false (by decide)] at h), fun h => H.p3 (by rwa [Go.getD_set_ne false (by decide)] at h), fun h => H.p4 (by rwa [Go.getD_set_ne false (by decide)] at h), fun _ => ⟨_, _, _, _, rfl, s5, t5⟩, fun h => (H.p6 (by rwa [Go.getD_set_ne false (by decide)] at h)).keep hb, fun h => (H.p7 (by rwa [Go.getD_set_ne false (by decide)] at h)).keep hb, fun h => (H.p8 (by rwa [Go.getD_set_ne false (by decide)] at h)).keep hb, fun h => (H.p9 (by rwa [Go.getD_set_ne false (by decide)] at h)).keep hb, fun h => (H.p10 (by rwa [Go.getD_set_ne false (by decide)] at h)).keep hb, fun h => (H.p11 (by rwa [Go.getD_set_ne false (by decide)] at h)).keep hb, fun h => (H.p12 (by rwa [Go.getD_set_ne false (by decide)] at h)).keep hb, fun h => (H.p13 (by rwa [Go.getD_set_ne false (by decide)] at h)).keep hb, fun h => by rw [Go.getD_set_ne false (by decide)] at h ⊢; exact H.s12 h, fun h => by rw [Go.getD_set_ne false (by decide)] at h ⊢; exact H.s13 h, fun h h' => H.ne10_11 (by rwa [Go.getD_set_ne false (by decide)] at h) (by rwa [Go.getD_set_ne false (by decide)] at h')⟩
      · skip
        have d1 := dep_of (d := 1) (by kernel_rfl) hi hd
        have d2 := dep_of (d := 2) (by kernel_rfl) hi hd
        have d5 := dep_of (d := 5) (by kernel_rfl) hi hd
        have y1 := H.p1 d1
        subst y1
        have y2 := H.p2 d2
        subst y2
        obtain ⟨A5, c5, B5, e5, rfl, s5, t5⟩ := H.p5 d5
        clear hd hlt2
        have ho := hi
        simp only [List.getElem?_toArray, List.getElem?_cons_succ, List.getElem?_cons_zero, Option.some.injEq] at ho
        subst ho
        refine wpOp_shut hi (fun K' hK => ?_)
        clear hi
        rw [if_pos (by rfl)]
        (try simp only [Act.put])
        go_simp
        (with_reducible refine (HCL.out w' A5 B5 c5 e5 s5 t5 H.hb).mono ?_)
        rintro e w2 ⟨A6, c6, B6, e6, C6, f6, D6, g6, rfl, s6, t6, u6, v6, hb⟩
        (try dsimp only at s6)
        (try dsimp only at t6)
        (try dsimp only at u6)
        (try dsimp only at v6)
        (try dsimp only)
        (try go_wp2_with fail)
        exact hK.out _ _ ⟨x0, .int .i64 l.length, .func (.func 47) #[] #[.pointer (some ⟨w.heap.size, 0, none⟩)], x3, x4, .agg #[.bool (frQ (x + x)).1.1, .slice A5 (frQ (x + x)).1.2.length c5, .bool (frQ (x + x)).2.1, .slice B5 (frQ (x + x)).2.2.length e5], .tuple #[.agg #[.bool (frQ p).1.1, .slice A6 (frQ p).1.2.length c6, .bool (frQ p).2.1, .slice B6 (frQ p).2.2.length e6], .agg #[.bool (frQ q).1.1, .slice C6 (frQ q).1.2.length f6, .bool (frQ q).2.1, .slice D6 (frQ q).2.2.length g6]], x7, x8, x9, x10, x11, x12, x13, by simp only [Act.put, List.setIfInBounds_toArray, List.set_cons_zero, List.set_cons_succ], below_mono H.hb hb, fun h => H.p0 (by rwa [Go.getD_set_ne false (by decide)] at h), fun h => H.p1 (by rwa [Go.getD_set_ne false (by decide)] at h), fun h => H.p2 (by rwa [Go.getD_set_ne false (by decide)] at h), fun h => H.p3 (by rwa [Go.getD_set_ne false (by decide)] at h), fun h => H.p4 (by rwa [Go.getD_set_ne false (by decide)] at h), fun h => (H.p5 (by rwa [Go.getD_set_ne false (by decide)] at h)).keep hb, fun _ => ⟨_, _, _, _, _, _, _, _, rfl, s6, t6, u6, v6⟩, fun h => (H.p7 (by rwa [Go.getD_set_ne false (by decide)] at h)).keep hb, fun h => (H.p8 (by rwa [Go.getD_set_ne false (by decide)] at h)).keep hb, fun h => (H.p9 (by rwa [Go.getD_set_ne false (by decide)] at h)).keep hb, fun h => (H.p10 (by rwa [Go.getD_set_ne false (by decide)] at h)).keep hb, fun h => (H.p11 (by rwa [Go.getD_set_ne false (by decide)] at h)).keep hb, fun h => (H.p12 (by rwa [Go.getD_set_ne false (by decide)] at h)).keep hb, fun h => (H.p13 (by rwa [Go.getD_set_ne false (by decide)] at h)).keep hb, fun h => by rw [Go.getD_set_ne false (by decide)] at h ⊢; exact H.s12 h, fun h => by rw [Go.getD_set_ne false (by decide)] at h ⊢; exact H.s13 h, fun h h' => H.ne10_11 (by rwa [Go.getD_set_ne false (by decide)] at h) (by rwa [Go.getD_set_ne false (by decide)] at h')⟩
      · skip
        have d6 := dep_of (d := 6) (by kernel_rfl) hi hd
        obtain ⟨A6, c6, B6, e6, C6, f6, D6, g6, rfl, s6, t6, u6, v6⟩ := H.p6 d6
        clear hd hlt2
        have ho := hi
        simp only [List.getElem?_toArray, List.getElem?_cons_succ, List.getElem?_cons_zero, Option.some.injEq] at ho
        subst ho
        refine wpOp_shut hi (fun K' hK => ?_)
        clear hi
        rw [if_pos (by rfl)]
        (try simp only [Act.put])
        go_simp
        exact hK.out _ _ ⟨x0, x1, x2, x3, x4, x5, .tuple #[.agg #[.bool (frQ p).1.1, .slice A6 (frQ p).1.2.length c6, .bool (frQ p).2.1, .slice B6 (frQ p).2.2.length e6], .agg #[.bool (frQ q).1.1, .slice C6 (frQ q).1.2.length f6, .bool (frQ q).2.1, .slice D6 (frQ q).2.2.length g6]], .tuple #[.agg #[.bool (frQ p).1.1, .slice A6 (frQ p).1.2.length c6, .bool (frQ p).2.1, .slice B6 (frQ p).2.2.length e6], .agg #[.bool (frQ q).1.1, .slice C6 (frQ q).1.2.length f6, .bool (frQ q).2.1, .slice D6 (frQ q).2.2.length g6]], x8, x9, x10, x11, x12, x13, by simp only [Act.put, List.setIfInBounds_toArray, List.set_cons_zero, List.set_cons_succ], H.hb, fun h => H.p0 (by rwa [Go.getD_set_ne false (by decide)] at h), fun h => H.p1 (by rwa [Go.getD_set_ne false (by decide)] at h), fun h => H.p2 (by rwa [Go.getD_set_ne false (by decide)] at h), fun h => H.p3 (by rwa [Go.getD_set_ne false (by decide)] at h), fun h => H.p4 (by rwa [Go.getD_set_ne false (by decide)] at h), fun h => H.p5 (by rwa [Go.getD_set_ne false (by decide)] at h), fun h => H.p6 (by rwa [Go.getD_set_ne false (by decide)] at h), fun _ => ⟨_, _, _, _, _, _, _, _, rfl, s6, t6, u6, v6⟩, fun h => H.p8 (by rwa [Go.getD_set_ne false (by decide)] at h), fun h => H.p9 (by rwa [Go.getD_set_ne false (by decide)] at h), fun h => H.p10 (by rwa [Go.getD_set_ne false (by decide)] at h), fun h => H.p11 (by rwa [Go.getD_set_ne false (by decide)] at h), fun h => H.p12 (by rwa [Go.getD_set_ne false (by decide)] at h), fun h => H.p13 (by rwa [Go.getD_set_ne false (by decide)] at h), fun h => by rw [Go.getD_set_ne false (by decide)] at h ⊢; exact H.s12 h, fun h => by rw [Go.getD_set_ne false (by decide)] at h ⊢; exact H.s13 h, fun h h' => H.ne10_11 (by rwa [Go.getD_set_ne false (by decide)] at h) (by rwa [Go.getD_set_ne false (by decide)] at h')⟩
      · skip
        have d7 := dep_of (d := 7) (by kernel_rfl) hi hd
        obtain ⟨A7, c7, B7, e7, C7, f7, D7, g7, rfl, s7, t7, u7, v7⟩ := H.p7 d7
        clear hd hlt2
        have ho := hi
        simp only [List.getElem?_toArray, List.getElem?_cons_succ, List.getElem?_cons_zero, Option.some.injEq] at ho
        subst ho
        refine wpOp_shut hi (fun K' hK => ?_)
        clear hi
        rw [if_pos (by rfl)]
        (try simp only [Act.put])
        go_simp
        exact hK.out _ _ ⟨x0, x1, x2, x3, x4, x5, x6, .tuple #[.agg #[.bool (frQ p).1.1, .slice A7 (frQ p).1.2.length c7, .bool (frQ p).2.1, .slice B7 (frQ p).2.2.length e7], .agg #[.bool (frQ q).1.1, .slice C7 (frQ q).1.2.length f7, .bool (frQ q).2.1, .slice D7 (frQ q).2.2.length g7]], .agg #[.bool (frQ p).1.1, .slice A7 (frQ p).1.2.length c7, .bool (frQ p).2.1, .slice B7 (frQ p).2.2.length e7], x9, x10, x11, x12, x13, by simp only [Act.put, List.setIfInBounds_toArray, List.set_cons_zero, List.set_cons_succ], H.hb, fun h => H.p0 (by rwa [Go.getD_set_ne false (by decide)] at h), fun h => H.p1 (by rwa [Go.getD_set_ne false (by decide)] at h), fun h => H.p2 (by rwa [Go.getD_set_ne false (by decide)] at h), fun h => H.p3 (by rwa [Go.getD_set_ne false (by decide)] at h), fun h => H.p4 (by rwa [Go.getD_set_ne false (by decide)] at h), fun h => H.p5 (by rwa [Go.getD_set_ne false (by decide)] at h), fun h => H.p6 (by rwa [Go.getD_set_ne false (by decide)] at h), fun h => H.p7 (by rwa [Go.getD_set_ne false (by decide)] at h), fun _ => ⟨_, _, _, _, rfl, s7, t7⟩, fun h => H.p9 (by rwa [Go.getD_set_ne false (by decide)] at h), fun h => H.p10 (by rwa [Go.getD_set_ne false (by decide)] at h), fun h => H.p11 (by rwa [Go.getD_set_ne false (by decide)] at h), fun h => H.p12 (by rwa [Go.getD_set_ne false (by decide)] at h), fun h => H.p13 (by rwa [Go.getD_set_ne false (by decide)] at h), fun h => by rw [Go.getD_set_ne false (by decide)] at h ⊢; exact H.s12 h, fun h => by rw [Go.getD_set_ne false (by decide)] at h ⊢; exact H.s13 h, fun h h' => H.ne10_11 (by rwa [Go.getD_set_ne false (by decide)] at h) (by rwa [Go.getD_set_ne false (by decide)] at h')⟩
      · skip
        have d7 := dep_of (d := 7) (by kernel_rfl) hi hd
        obtain ⟨A7, c7, B7, e7, C7, f7, D7, g7, rfl, s7, t7, u7, v7⟩ := H.p7 d7
        clear hd hlt2
        have ho := hi
        simp only [List.getElem?_toArray, List.getElem?_cons_succ, List.getElem?_cons_zero, Option.some.injEq] at ho
        subst ho
        refine wpOp_shut hi (fun K' hK => ?_)
        clear hi
        rw [if_pos (by rfl)]
        (try simp only [Act.put])
        go_simp
        exact hK.out _ _ ⟨x0, x1, x2, x3, x4, x5, x6, .tuple #[.agg #[.bool (frQ p).1.1, .slice A7 (frQ p).1.2.length c7, .bool (frQ p).2.1, .slice B7 (frQ p).2.2.length e7], .agg #[.bool (frQ q).1.1, .slice C7 (frQ q).1.2.length f7, .bool (frQ q).2.1, .slice D7 (frQ q).2.2.length g7]], x8, .agg #[.bool (frQ q).1.1, .slice C7 (frQ q).1.2.length f7, .bool (frQ q).2.1, .slice D7 (frQ q).2.2.length g7], x10, x11, x12, x13, by simp only [Act.put, List.setIfInBounds_toArray, List.set_cons_zero, List.set_cons_succ], H.hb, fun h => H.p0 (by rwa [Go.getD_set_ne false (by decide)] at h), fun h => H.p1 (by rwa [Go.getD_set_ne false (by decide)] at h), fun h => H.p2 (by rwa [Go.getD_set_ne false (by decide)] at h), fun h => H.p3 (by rwa [Go.getD_set_ne false (by decide)] at h), fun h => H.p4 (by rwa [Go.getD_set_ne false (by decide)] at h), fun h => H.p5 (by rwa [Go.getD_set_ne false (by decide)] at h), fun h => H.p6 (by rwa [Go.getD_set_ne false (by decide)] at h), fun h => H.p7 (by rwa [Go.getD_set_ne false (by decide)] at h), fun h => H.p8 (by rwa [Go.getD_set_ne false (by decide)] at h), fun _ => ⟨_, _, _, _, rfl, u7, v7⟩, fun h => H.p10 (by rwa [Go.getD_set_ne false (by decide)] at h), fun h => H.p11 (by rwa [Go.getD_set_ne false (by decide)] at h), fun h => H.p12 (by rwa [Go.getD_set_ne false (by decide)] at h), fun h => H.p13 (by rwa [Go.getD_set_ne false (by decide)] at h), fun h => by rw [Go.getD_set_ne false (by decide)] at h ⊢; exact H.s12 h, fun h => by rw [Go.getD_set_ne false (by decide)] at h ⊢; exact H.s13 h, fun h h' => H.ne10_11 (by rwa [Go.getD_set_ne false (by decide)] at h) (by rwa [Go.getD_set_ne false (by decide)] at h')⟩
      · skip
        clear hd hlt2
        have ho := hi
        simp only [List.getElem?_toArray, List.getElem?_cons_succ, List.getElem?_cons_zero, Option.some.injEq] at ho
        subst ho
        refine wpOp_shut hi (fun K' hK => ?_)
        clear hi
        rw [if_pos (by rfl)]
        (try simp only [Act.put])
        have hb := blw1 w' (.cells #[.bool false, .slice none 0 0, .bool false, .slice none 0 0] 59)
        go_simp
        exact hK.out _ _ ⟨x0, x1, x2, x3, x4, x5, x6, x7, x8, x9, .pointer (some ⟨w'.heap.size, 0, none⟩), x11, x12, x13, by simp only [Act.put, List.setIfInBounds_toArray, List.set_cons_zero, List.set_cons_succ], below_mono H.hb hb, fun h => H.p0 (by rwa [Go.getD_set_ne false (by decide)] at h), fun h => H.p1 (by rwa [Go.getD_set_ne false (by decide)] at h), fun h => H.p2 (by rwa [Go.getD_set_ne false (by decide)] at h), fun h => H.p3 (by rwa [Go.getD_set_ne false (by decide)] at h), fun h => H.p4 (by rwa [Go.getD_set_ne false (by decide)] at h), fun h => (H.p5 (by rwa [Go.getD_set_ne false (by decide)] at h)).keep hb, fun h => (H.p6 (by rwa [Go.getD_set_ne false (by decide)] at h)).keep hb, fun h => (H.p7 (by rwa [Go.getD_set_ne false (by decide)] at h)).keep hb, fun h => (H.p8 (by rwa [Go.getD_set_ne false (by decide)] at h)).keep hb, fun h => (H.p9 (by rwa [Go.getD_set_ne false (by decide)] at h)).keep hb, fun _ => IsB.fresh H.hb.size, fun h => (H.p11 (by rwa [Go.getD_set_ne false (by decide)] at h)).keep hb, fun h => absurd (H.s12 (by rwa [Go.getD_set_ne false (by decide)] at h)) (by rw [Go.getD_both hun]; decide), fun h => (H.p13 (by rwa [Go.getD_set_ne false (by decide)] at h)).keep hb, fun h => absurd (H.s12 (by rwa [Go.getD_set_ne false (by decide)] at h)) (by rw [Go.getD_both hun]; decide), fun h => by rw [Go.getD_set_ne false (by decide)] at h ⊢; exact H.s13 h, fun _ h' => ((H.p11 (by rwa [Go.getD_set_ne false (by decide)] at h')).ne).symm⟩
      · skip
        clear hd hlt2
        have ho := hi
        simp only [List.getElem?_toArray, List.getElem?_cons_succ, List.getElem?_cons_zero, Option.some.injEq] at ho
        subst ho
        refine wpOp_shut hi (fun K' hK => ?_)
        clear hi
        rw [if_pos (by rfl)]
        (try simp only [Act.put])
        have hb := blw1 w' (.cells #[.bool false, .slice none 0 0, .bool false, .slice none 0 0] 59)
        go_simp
        exact hK.out _ _ ⟨x0, x1, x2, x3, x4, x5, x6, x7, x8, x9, x10, .pointer (some ⟨w'.heap.size, 0, none⟩), x12, x13, by simp only [Act.put, List.setIfInBounds_toArray, List.set_cons_zero, List.set_cons_succ], below_mono H.hb hb, fun h => H.p0 (by rwa [Go.getD_set_ne false (by decide)] at h), fun h => H.p1 (by rwa [Go.getD_set_ne false (by decide)] at h), fun h => H.p2 (by rwa [Go.getD_set_ne false (by decide)] at h), fun h => H.p3 (by rwa [Go.getD_set_ne false (by decide)] at h), fun h => H.p4 (by rwa [Go.getD_set_ne false (by decide)] at h), fun h => (H.p5 (by rwa [Go.getD_set_ne false (by decide)] at h)).keep hb, fun h => (H.p6 (by rwa [Go.getD_set_ne false (by decide)] at h)).keep hb, fun h => (H.p7 (by rwa [Go.getD_set_ne false (by decide)] at h)).keep hb, fun h => (H.p8 (by rwa [Go.getD_set_ne false (by decide)] at h)).keep hb, fun h => (H.p9 (by rwa [Go.getD_set_ne false (by decide)] at h)).keep hb, fun h => (H.p10 (by rwa [Go.getD_set_ne false (by decide)] at h)).keep hb, fun _ => IsB.fresh H.hb.size, fun h => (H.p12 (by rwa [Go.getD_set_ne false (by decide)] at h)).keep hb, fun h => absurd (H.s13 (by rwa [Go.getD_set_ne false (by decide)] at h)) (by rw [Go.getD_both hun]; decide), fun h => by rw [Go.getD_set_ne false (by decide)] at h ⊢; exact H.s12 h, fun h => absurd (H.s13 (by rwa [Go.getD_set_ne false (by decide)] at h)) (by rw [Go.getD_both hun]; decide), fun h _ => (H.p10 (by rwa [Go.getD_set_ne false (by decide)] at h)).ne⟩
      · skip
        have d8 := dep_of (d := 8) (by kernel_rfl) hi hd
        have d10 := dep_of (d := 10) (by kernel_rfl) hi hd
        have d11 := dep_of (d := 11) (by kernel_rfl) hi hd
        obtain ⟨A8, c8, B8, e8, rfl, s8, t8⟩ := H.p8 d8
        obtain ⟨b10, n110, A110, m110, c110, n210, A210, m210, c210, rfl, hg10, hk10, hf10⟩ := H.p10 d10
        obtain ⟨b11, n111, A111, m111, c111, n211, A211, m211, c211, rfl, hg11, hk11, hf11⟩ := H.p11 d11
        clear hd hlt2
        have ho := hi
        simp only [List.getElem?_toArray, List.getElem?_cons_succ, List.getElem?_cons_zero, Option.some.injEq] at ho
        subst ho
        refine wpOp_shut hi (fun K' hK => ?_)
        clear hi
        rw [if_pos (by rfl)]
        (try simp only [Act.put])
        have z0 := hk10.1
        have z1 := hk10.2.1
        have z2 := hk10.2.2.1
        have z3 := hk10.2.2.2
        have y0 := hf10.1
        have y1 := hf10.2.1
        have y2 := hf10.2.2.1
        have y3 := hf10.2.2.2
        go_simp
        exact hK.out _ _ ⟨x0, x1, x2, x3, x4, x5, x6, x7, .agg #[.bool (frQ p).1.1, .slice A8 (frQ p).1.2.length c8, .bool (frQ p).2.1, .slice B8 (frQ p).2.2.length e8], x9, .pointer (some ⟨b10, 0, none⟩), .pointer (some ⟨b11, 0, none⟩), x12, x13, by simp only [Act.put, List.setIfInBounds_toArray, List.set_cons_zero, List.set_cons_succ], below_setF H.hb hg10 _ _ _ _, fun h => H.p0 (by rwa [Go.getD_set_ne false (by decide)] at h), fun h => H.p1 (by rwa [Go.getD_set_ne false (by decide)] at h), fun h => H.p2 (by rwa [Go.getD_set_ne false (by decide)] at h), fun h => H.p3 (by rwa [Go.getD_set_ne false (by decide)] at h), fun h => H.p4 (by rwa [Go.getD_set_ne false (by decide)] at h), fun h => (H.p5 (by rwa [Go.getD_set_ne false (by decide)] at h)).st hk10 _ _ _ _, fun h => (H.p6 (by rwa [Go.getD_set_ne false (by decide)] at h)).st hk10 _ _ _ _, fun h => (H.p7 (by rwa [Go.getD_set_ne false (by decide)] at h)).st hk10 _ _ _ _, fun h => (H.p8 (by rwa [Go.getD_set_ne false (by decide)] at h)).st hk10 _ _ _ _, fun h => (H.p9 (by rwa [Go.getD_set_ne false (by decide)] at h)).st hk10 _ _ _ _, fun h => ⟨_, _, _, _, _, _, _, _, _, rfl, hg10, hk10.newF, hf10.putF _ _ _ _⟩, fun h => (H.p11 (by rwa [Go.getD_set_ne false (by decide)] at h)).st (H.ne10_11 d10 (by rwa [Go.getD_set_ne false (by decide)] at h)).symm _ _ _ _, fun _ => ⟨_, _, _, _, _, rfl, BxQ.put hk10 hf10 s8 t8⟩, fun h => (H.p13 (by rwa [Go.getD_set_ne false (by decide)] at h)).st hk10 (H.ne10_11 d10 d11).symm _ _ _ _, fun _ => by rw [Go.getD_set_ne false (by decide)]; exact d10, fun h => by rw [Go.getD_set_ne false (by decide)] at h ⊢; exact H.s13 h, fun h h' => H.ne10_11 (by rwa [Go.getD_set_ne false (by decide)] at h) (by rwa [Go.getD_set_ne false (by decide)] at h')⟩
      · skip
        have d8 := dep_of (d := 8) (by kernel_rfl) hi hd
        have d9 := dep_of (d := 9) (by kernel_rfl) hi hd
        have d10 := dep_of (d := 10) (by kernel_rfl) hi hd
        have d11 := dep_of (d := 11) (by kernel_rfl) hi hd
        have d12 := dep_of (d := 12) (by kernel_rfl) hi hd
        obtain ⟨A8, c8, B8, e8, rfl, s8, t8⟩ := H.p8 d8
        obtain ⟨A9, c9, B9, e9, rfl, s9, t9⟩ := H.p9 d9
        obtain ⟨b10, n110, A110, m110, c110, n210, A210, m210, c210, rfl, hg10, hk10, hf10⟩ := H.p10 d10
        obtain ⟨b11, n111, A111, m111, c111, n211, A211, m211, c211, rfl, hg11, hk11, hf11⟩ := H.p11 d11
        clear hd hlt2
        have ho := hi
        simp only [List.getElem?_toArray, List.getElem?_cons_succ, List.getElem?_cons_zero, Option.some.injEq] at ho
        subst ho
        refine wpOp_shut hi (fun K' hK => ?_)
        clear hi
        rw [if_pos (by rfl)]
        (try simp only [Act.put])
        have z0 := hk11.1
        have z1 := hk11.2.1
        have z2 := hk11.2.2.1
        have z3 := hk11.2.2.2
        have y0 := hf11.1
        have y1 := hf11.2.1
        have y2 := hf11.2.2.1
        have y3 := hf11.2.2.2
        go_simp
        exact hK.out _ _ ⟨x0, x1, x2, x3, x4, x5, x6, x7, .agg #[.bool (frQ p).1.1, .slice A8 (frQ p).1.2.length c8, .bool (frQ p).2.1, .slice B8 (frQ p).2.2.length e8], .agg #[.bool (frQ q).1.1, .slice A9 (frQ q).1.2.length c9, .bool (frQ q).2.1, .slice B9 (frQ q).2.2.length e9], .pointer (some ⟨b10, 0, none⟩), .pointer (some ⟨b11, 0, none⟩), x12, x13, by simp only [Act.put, List.setIfInBounds_toArray, List.set_cons_zero, List.set_cons_succ], below_setF H.hb hg11 _ _ _ _, fun h => H.p0 (by rwa [Go.getD_set_ne false (by decide)] at h), fun h => H.p1 (by rwa [Go.getD_set_ne false (by decide)] at h), fun h => H.p2 (by rwa [Go.getD_set_ne false (by decide)] at h), fun h => H.p3 (by rwa [Go.getD_set_ne false (by decide)] at h), fun h => H.p4 (by rwa [Go.getD_set_ne false (by decide)] at h), fun h => (H.p5 (by rwa [Go.getD_set_ne false (by decide)] at h)).st hk11 _ _ _ _, fun h => (H.p6 (by rwa [Go.getD_set_ne false (by decide)] at h)).st hk11 _ _ _ _, fun h => (H.p7 (by rwa [Go.getD_set_ne false (by decide)] at h)).st hk11 _ _ _ _, fun h => (H.p8 (by rwa [Go.getD_set_ne false (by decide)] at h)).st hk11 _ _ _ _, fun h => (H.p9 (by rwa [Go.getD_set_ne false (by decide)] at h)).st hk11 _ _ _ _, fun h => (H.p10 (by rwa [Go.getD_set_ne false (by decide)] at h)).st (H.ne10_11 (by rwa [Go.getD_set_ne false (by decide)] at h) d11) _ _ _ _, fun h => ⟨_, _, _, _, _, _, _, _, _, rfl, hg11, hk11.newF, hf11.putF _ _ _ _⟩, fun h => (H.p12 (by rwa [Go.getD_set_ne false (by decide)] at h)).st hk11 (H.ne10_11 d10 d11) _ _ _ _, fun _ => ⟨_, _, _, _, _, rfl, BxQ.put hk11 hf11 s9 t9⟩, fun h => by rw [Go.getD_set_ne false (by decide)] at h ⊢; exact H.s12 h, fun _ => by rw [Go.getD_set_ne false (by decide)]; exact d11, fun h h' => H.ne10_11 (by rwa [Go.getD_set_ne false (by decide)] at h) (by rwa [Go.getD_set_ne false (by decide)] at h')⟩
    case hend =>
      intro listed a' w' hI hall
      obtain ⟨x0, x1, x2, x3, x4, x5, x6, x7, x8, x9, x10, x11, x12, x13, rfl, H⟩ := hI
      have h0 := H.p0 (hall 0 (by decide))
      have h1 := H.p1 (hall 1 (by decide))
      have h2 := H.p2 (hall 2 (by decide))
      have h3 := H.p3 (hall 3 (by decide))
      have h4 := H.p4 (hall 4 (by decide))
      have h5 := H.p5 (hall 5 (by decide))
      have h6 := H.p6 (hall 6 (by decide))
      have h7 := H.p7 (hall 7 (by decide))
      have h8 := H.p8 (hall 8 (by decide))
      have h9 := H.p9 (hall 9 (by decide))
      have h10 := H.p10 (hall 10 (by decide))
      have h11 := H.p11 (hall 11 (by decide))
      have h12 := H.p12 (hall 12 (by decide))
      have h13 := H.p13 (hall 13 (by decide))
      have n10_11 := H.ne10_11 (hall 10 (by decide)) (hall 11 (by decide))
      have hb := H.hb
      clear H hall
      obtain ⟨g1, A1, c1, B1, d1, rfl, k1⟩ := h12
      obtain ⟨g2, A2, c2, B2, d2, rfl, k2⟩ := h13
      clear h0 h1 h2 h3 h4 h5 h6 h7 h8 h9 h10 h11 n10_11
      simp only [Act.put, List.setIfInBounds_toArray, List.set_cons_zero, List.set_cons_succ]
      go_wp2_with fail
      go_meet
      exact ⟨g1, A1, c1, B1, d1, g2, A2, c2, B2, d2, rfl, rfl, k1, k2, hb⟩
  case rest =>
    obtain ⟨g1, A1, c1, B1, d1, g2, A2, c2, B2, d2, rfl, rfl, hk1, hk2, hb⟩ := hcut
    generalize wc = wx at *
    replace FO := Lib.hid (FO.out.keep KO.out hb)
    replace KO := Lib.hid (KO.out.keep hb)
    replace KC := Lib.hid (KC.out.keep hb)
    replace KX := Lib.hid (KX.out.keep hb)
    replace HB := Lib.hid (below_mono HB.out hb)
    replace HS := Lib.hid (HS.out.below hb)
    clear hb HCL
    have K1 := Lib.hid hk1
    have K2 := Lib.hid hk2
    clear hk1 hk2
    have hW : Hid (∀ V, Calls Try.prog 35 #[.int .i64 (l.getD 0 0)] V (FRes1 (frQ (cfQ l 0)) V)) := fun V => ewhole_q (l.getD 0 0) (HS.out.bdD 0).1 (HS.out.bdD 0).2 V
    obtain ⟨bb, oo, rfl, -, hc0⟩ := HS.out.atE (k := 0) h0
    rw [Nat.add_zero] at hc0
    generalize cfQ l 0 = c0 at *
    generalize l.getD 0 0 = y at *
    have C0 := Lib.hid hc0
    clear hc0
    go_upto_region 2 with fail
    have JS : Hid (∀ X, Below wx.heap.size wx X → X.cell? ⟨w.heap.size, 0, none⟩ = some (.slice (some ⟨bb, oo, none⟩) l.length cc) ∧ X.cell? ⟨w.heap.size + 1, 0, none⟩ = some (.bool (frQ x).1.1) ∧ X.cell? ⟨w.heap.size + 1, 1, none⟩ = some (.slice Ax (frQ x).1.2.length cx) ∧ X.cell? ⟨w.heap.size + 1, 2, none⟩ = some (.bool (frQ x).2.1) ∧ X.cell? ⟨w.heap.size + 1, 3, none⟩ = some (.slice Bx (frQ x).2.2.length dx) ∧ X.cell? ⟨bb, oo, none⟩ = some (.int .i64 y) ∧ X.cell? ⟨g1, 0, none⟩ = some (.bool (frQ p).1.1) ∧ X.cell? ⟨g1, 1, none⟩ = some (.slice A1 (frQ p).1.2.length c1) ∧ X.cell? ⟨g1, 2, none⟩ = some (.bool (frQ p).2.1) ∧ X.cell? ⟨g1, 3, none⟩ = some (.slice B1 (frQ p).2.2.length d1) ∧ X.cell? ⟨g2, 0, none⟩ = some (.bool (frQ q).1.1) ∧ X.cell? ⟨g2, 1, none⟩ = some (.slice A2 (frQ q).1.2.length c2) ∧ X.cell? ⟨g2, 2, none⟩ = some (.bool (frQ q).2.1) ∧ X.cell? ⟨g2, 3, none⟩ = some (.slice B2 (frQ q).2.2.length d2)) := fun X h => ⟨(KC.out.keep h).at_ 0 rfl, (KX.out.keep h).k.1, (KX.out.keep h).k.2.1, (KX.out.keep h).k.2.2.1, (KX.out.keep h).k.2.2.2, kept_cell h C0.out, (K1.out.keep h).k.1, (K1.out.keep h).k.2.1, (K1.out.keep h).k.2.2.1, (K1.out.keep h).k.2.2.2, (K2.out.keep h).k.1, (K2.out.keep h).k.2.1, (K2.out.keep h).k.2.2.1, (K2.out.keep h).k.2.2.2⟩
    have Y0 : Hid (Below wx.heap.size wx wx.drew) := (Below.refl _ _).drew
    have F1 := Lib.hid (q_mul FX.out FP (by omega)).2
    have F2 := Lib.hid (q_add FC0 F1.out (by omega)).2
    refine wp_region_HT (S := fun w' => w'.cell? ⟨w.heap.size, 0, none⟩ = some (.slice (some ⟨bb, oo, none⟩) l.length cc) ∧ w'.cell? ⟨w.heap.size + 1, 0, none⟩ = some (.bool (frQ x).1.1) ∧ w'.cell? ⟨w.heap.size + 1, 1, none⟩ = some (.slice Ax (frQ x).1.2.length cx) ∧ w'.cell? ⟨w.heap.size + 1, 2, none⟩ = some (.bool (frQ x).2.1) ∧ w'.cell? ⟨w.heap.size + 1, 3, none⟩ = some (.slice Bx (frQ x).2.2.length dx) ∧ w'.cell? ⟨bb, oo, none⟩ = some (.int .i64 y) ∧ w'.cell? ⟨g1, 0, none⟩ = some (.bool (frQ p).1.1) ∧ w'.cell? ⟨g1, 1, none⟩ = some (.slice A1 (frQ p).1.2.length c1) ∧ w'.cell? ⟨g1, 2, none⟩ = some (.bool (frQ p).2.1) ∧ w'.cell? ⟨g1, 3, none⟩ = some (.slice B1 (frQ p).2.2.length d1) ∧ w'.cell? ⟨g2, 0, none⟩ = some (.bool (frQ q).1.1) ∧ w'.cell? ⟨g2, 1, none⟩ = some (.slice A2 (frQ q).1.2.length c2) ∧ w'.cell? ⟨g2, 2, none⟩ = some (.bool (frQ q).2.1) ∧ w'.cell? ⟨g2, 3, none⟩ = some (.slice B2 (frQ q).2.2.length d2)) 10 (by kernel_rfl) (by kernel_rfl) (JS.out _ Y0.out) (fun hHeld => ?_)
    refine wpHT_take (i := 0) (v := .slice (some ⟨bb, oo, none⟩) l.length cc) rfl (by kernel_rfl) (by decide) (by kernel_rfl) (by kernel_rfl) (by kernel_rfl) (fun _ _ _ h => h) (Or.inl ⟨by rfl, by intro w hSw; (try dsimp only at hSw); go_simp⟩) hHeld ?_
    (try simp only [Act.put])
    refine wpHT_take (i := 1) (v := .pointer (some ⟨bb, oo, none⟩)) rfl (by kernel_rfl) (by decide) (by kernel_rfl) (by kernel_rfl) (by kernel_rfl) (fun _ _ _ h => h) (Or.inl ⟨by rfl, by intro w hSw; (try dsimp only at hSw); go_simp⟩) hHeld ?_
    (try simp only [Act.put])
    refine wpHT_take (i := 2) (v := .int .i64 y) rfl (by kernel_rfl) (by decide) (by kernel_rfl) (by kernel_rfl) (by kernel_rfl) (fun _ _ _ h => h) (Or.inl ⟨by rfl, by intro w hSw; (try dsimp only at hSw); go_simp⟩) hHeld ?_
    (try simp only [Act.put])
    refine wpHT_take (i := 4) (v := .agg #[.bool (frQ x).1.1, .slice Ax (frQ x).1.2.length cx, .bool (frQ x).2.1, .slice Bx (frQ x).2.2.length dx]) rfl (by kernel_rfl) (by decide) (by kernel_rfl) (by kernel_rfl) (by kernel_rfl) (fun _ _ _ h => h) (Or.inl ⟨by rfl, by intro w hSw; (try dsimp only at hSw); go_simp⟩) hHeld ?_
    (try simp only [Act.put])
    refine wpHT_take (i := 5) (v := .agg #[.bool (frQ p).1.1, .slice A1 (frQ p).1.2.length c1, .bool (frQ p).2.1, .slice B1 (frQ p).2.2.length d1]) rfl (by kernel_rfl) (by decide) (by kernel_rfl) (by kernel_rfl) (by kernel_rfl) (fun _ _ _ h => h) (Or.inl ⟨by rfl, by intro w hSw; (try dsimp only at hSw); go_simp⟩) hHeld ?_
    (try simp only [Act.put])
    refine wpHT_take (i := 8) (v := .agg #[.bool (frQ q).1.1, .slice A2 (frQ q).1.2.length c2, .bool (frQ q).2.1, .slice B2 (frQ q).2.2.length d2]) rfl (by kernel_rfl) (by decide) (by kernel_rfl) (by kernel_rfl) (by kernel_rfl) (fun _ _ _ h => h) (Or.inl ⟨by rfl, by intro w hSw; (try dsimp only at hSw); go_simp⟩) hHeld ?_
    (try simp only [Act.put])
    clear hHeld
    refine wpHT_ready (rs := [3]) (by kernel_rfl) (by simp) (HTready.cons rfl (by decide) (fun K hK => ?_) HTready.nil)
    go_simp
    (with_reducible refine (hW.out wx.drew).mono ?_)
    rintro e v1 ⟨A3, c3, B3, d3, rfl, hs3, ht3, hb⟩
    (try dsimp only at hs3)
    (try dsimp only at ht3)
    (try dsimp only)
    have Y1 := Lib.hid (below_mono Y0.out hb)
    have S3v1 := Lib.hid hs3
    have T3v1 := Lib.hid ht3
    clear hb hs3 ht3
    (try go_wp2_with fail)
    refine hK.out _ _ (JS.out _ Y1.out) (fun hHeld2 => ?_)
    clear hK K hHeld2
    (try simp only [Act.put])
    refine wpHT_ready (rs := [6]) (by kernel_rfl) (by simp) (HTready.cons rfl (by decide) (fun K hK => ?_) HTready.nil)
    go_simp
    (with_reducible refine (emul_q FX.out FP (by omega) v1 Ax Bx A1 B1 cx dx c1 d1 (KX.out.keep Y1.out).s (KX.out.keep Y1.out).t (K1.out.keep Y1.out).s (K1.out.keep Y1.out).t).mono ?_)
    rintro e v2 ⟨A4, c4, B4, d4, rfl, hs4, ht4, hb⟩
    (try dsimp only at hs4)
    (try dsimp only at ht4)
    (try dsimp only)
    have Y2 := Lib.hid (below_mono Y1.out hb)
    have S3v2 := Lib.hid (S3v1.out.below hb)
    have T3v2 := Lib.hid (T3v1.out.below hb)
    have S4v2 := Lib.hid hs4
    have T4v2 := Lib.hid ht4
    clear hb hs4 ht4
    (try go_wp2_with fail)
    refine hK.out _ _ (JS.out _ Y2.out) (fun hHeld2 => ?_)
    clear hK K hHeld2
    (try simp only [Act.put])
    refine wpHT_ready (rs := [7]) (by kernel_rfl) (by simp) (HTready.cons rfl (by decide) (fun K hK => ?_) HTready.nil)
    go_simp
    (with_reducible refine (eadd_q FC0 F1.out (by omega) v2 A3 B3 A4 B4 c3 d3 c4 d4 S3v2.out T3v2.out S4v2.out T4v2.out).mono ?_)
    rintro e v3 ⟨A5, c5, B5, d5, rfl, hs5, ht5, hb⟩
    (try dsimp only at hs5)
    (try dsimp only at ht5)
    (try dsimp only)
    have Y3 := Lib.hid (below_mono Y2.out hb)
    have S5v3 := Lib.hid hs5
    have T5v3 := Lib.hid ht5
    clear hb hs5 ht5
    (try go_wp2_with fail)
    refine hK.out _ _ (JS.out _ Y3.out) (fun hHeld2 => ?_)
    clear hK K hHeld2
    (try simp only [Act.put])
    refine wpHT_ready (rs := [9]) (by kernel_rfl) (by simp) (HTready.cons rfl (by decide) (fun K hK => ?_) HTready.nil)
    go_simp
    (with_reducible refine (esub_q F2.out FQ (by omega) v3 A5 B5 A2 B2 c5 d5 c2 d2 S5v3.out T5v3.out (K2.out.keep Y3.out).s (K2.out.keep Y3.out).t).mono ?_)
    rintro e v4 ⟨A6, c6, B6, d6, rfl, hs6, ht6, hb⟩
    (try dsimp only at hs6)
    (try dsimp only at ht6)
    (try dsimp only)
    have Y4 := Lib.hid (below_mono Y3.out hb)
    have S6v4 := Lib.hid hs6
    have T6v4 := Lib.hid ht6
    clear hb hs6 ht6
    (try go_wp2_with fail)
    refine hK.out _ _ (JS.out _ Y4.out) (fun hHeld2 => ?_)
    clear hK K hHeld2
    (try simp only [Act.put])
    refine ⟨by kernel_rfl, ?_⟩
    have KO4 := Lib.hid (KO.out.keep Y4.out)
    have FO4 := Lib.hid (FO.out.keep KO.out Y4.out)
    have qo0 := KO4.out.1
    have qo1 := KO4.out.2.1
    have qo2 := KO4.out.2.2.1
    have qo3 := KO4.out.2.2.2
    have fo0 := FO4.out.1
    have fo1 := FO4.out.2.1
    have fo2 := FO4.out.2.2.1
    have fo3 := FO4.out.2.2.2
    simp only [List.drop_succ_cons, List.drop_zero]
    go_wp2
    exact bodyPost_ret (v := .agg #[.bool (frQ (c0 + x * p - q)).1.1, .slice A6 (frQ (c0 + x * p - q)).1.2.length c6, .bool (frQ (c0 + x * p - q)).2.1, .slice B6 (frQ (c0 + x * p - q)).2.2.length d6]) (by simp [results, Try.results30, go_sem, qo0, qo1, qo2, qo3]) rfl (fres1_store S6v4.out T6v4.out KO4.out (below_mono HB.out Y4.out) (by omega) _ _ _ _)

end Go.Proofs.Ytghallnooijfhaa

import Derived.Test.YtghallnooijfhaaEph4
namespace Go.Proofs.Ytghallnooijfhaa
open Go.RowKit
attribute [local go_sem ↓] Go.wp_at_zero Go.wp_at_succ
/-- A coefficient of the derivative. -/
def scQ (l : List Int) (k : Nat) : Rat := ((k + 1 : Nat) : Rat) * cfQ l (k + 1)

theorem scQ_int (l : List Int) (k : Nat) : scQ l k = (((((k : Int) + 1) * l.getD (k + 1) 0 : Int)) : Rat) := by
  unfold scQ cfQ
  push_cast
  rfl

theorem sc_bd {l : List Int} (h50 : ∀ z ∈ l, -1125899906842624 ≤ z ∧ z ≤ 1125899906842624) {k : Nat} (hk : k ≤ 6) : -9007199254740992 ≤ ((k : Int) + 1) * l.getD (k + 1) 0 ∧ ((k : Int) + 1) * l.getD (k + 1) 0 ≤ 9007199254740992 := by
  have hb : -1125899906842624 ≤ l.getD (k + 1) 0 ∧ l.getD (k + 1) 0 ≤ 1125899906842624 := by
    rw [List.getD_eq_getElem?_getD]
    by_cases hk : k + 1 < l.length
    · rw [List.getElem?_eq_getElem hk]; exact h50 _ (List.getElem_mem hk)
    · rw [List.getElem?_eq_none (by omega)]; simp
  generalize l.getD (k + 1) 0 = y at *
  have : k = 0 ∨ k = 1 ∨ k = 2 ∨ k = 3 ∨ k = 4 ∨ k = 5 ∨ k = 6 := by omega
  rcases this with rfl | rfl | rfl | rfl | rfl | rfl | rfl <;> simp <;> omega

set_option maxRecDepth 100000 in
set_option maxHeartbeats 8000000 in
theorem sclo_q (l : List Int) (A : Option Addr) (cc B gb k : Nat) (w : World) (hg : BlkV w gb 28 #[.slice A l.length cc]) (hs : SlI w B A l cc) (hk : k + 1 < l.length) (h6 : l.length ≤ 6) (h50 : ∀ z ∈ l, -1125899906842624 ≤ z ∧ z ≤ 1125899906842624) :
    Calls Try.prog 37 #[.int .i64 k, .pointer (some ⟨gb, 0, none⟩)] w (FRes1 (frQ (scQ l k)) w) := by
  obtain ⟨b, o, rfl, -, hx⟩ := hs.atE hk
  have hm := hs.len
  have hx' : w.cell? ⟨b, o + (k + 1), none⟩ = some (.int .i64 (l.getD (k + 1) 0)) := hx
  have q0 : w.cell? ⟨gb, 0, none⟩ = some (.slice (some ⟨b, o, none⟩) l.length cc) := hg.at_ 0 rfl
  have hgl := hg.lt
  have hbl : b < w.heap.size := lt_of_cell (a := ⟨b, o + (k + 1), none⟩) hx
  obtain ⟨hb1, hb2⟩ := sc_bd h50 (k := k) (by omega)
  have hW : Hid (∀ V, Calls Try.prog 35 #[.int .i64 (((k : Int) + 1) * l.getD (k + 1) 0)] V (FRes1 (frQ (scQ l k)) V)) := fun V => by rw [scQ_int]; exact ewhole_q _ (by omega) (by omega) V
  have hwr : IntKind.i64.wrap (((k : Int) + 1) * l.getD (k + 1) 0) = ((k : Int) + 1) * l.getD (k + 1) 0 := IntWalk.i64_in _ (by omega)
  clear hg hs hx
  generalize frQ (scQ l k) = R at *
  obtain ⟨⟨nx, lx⟩, ⟨ny, ly⟩⟩ := R
  generalize l.getD (k + 1) 0 = y at *
  go_enter Try.func37, Try.ntmps37
  go_wp2_with fail
  refine (hW.out _).mono ?_
  rintro e w1 ⟨A5, c5, B5, d5, rfl, hs5, ht5, hb⟩
  (try dsimp only at hs5 ht5)
  (try dsimp only)
  have Fo : Hid (Ff w1 w.heap.size) := Ff.keep (Ff.fresh (by simp) _ _) (Cf.fresh (by simp) _ _ _ _ _ _ _ _ _) hb
  have Ko : Hid (Cf w1 w.heap.size false none 0 0 false none 0 0) := Cf.keep (Cf.fresh (by simp) _ _ _ _ _ _ _ _ _) hb
  have B1 : Hid (Below w.heap.size w w1) := below_mono (blw1 _ _) hb
  clear hb
  obtain ⟨qo0, qo1, qo2, qo3⟩ := Ko.out
  obtain ⟨fo0, fo1, fo2, fo3⟩ := Fo.out
  have Sx := Lib.hid hs5
  have Sy := Lib.hid ht5
  go_wp2
  exact bodyPost_ret (v := .agg #[.bool nx, .slice A5 lx.length c5, .bool ny, .slice B5 ly.length d5]) (by simp [results, Try.results37, go_sem, qo0, qo1, qo2, qo3]) rfl (fres1_store (r := ((nx, lx), (ny, ly))) Sx.out Sy.out Ko.out B1.out (Nat.le_refl _) _ _ _ _)

/-- What holds in a region that draws. -/
structure VI2 (A : Option Addr) (n : Nat) (cc : Nat) (gb : Nat) (x : Rat) (Ax : Option Addr) (cx : Nat) (Bx : Option Addr) (dx : Nat) (p : Rat) (q : Rat) (w0 : World) (l : Array Bool) (w : World) (x0 x1 x2 x3 x4 x5 x6 x7 x8 x9 x10 x11 x12 x13 x14 : Value) : Prop where
  hb : Below w0.heap.size w0 w
  p0 : l.getD 0 false = true → x0 = .slice A n cc
  p1 : l.getD 1 false = true → x1 = .int .i64 n
  p2 : l.getD 2 false = true → x2 = .int .i64 ((n : Int) - 1)
  p3 : l.getD 3 false = true → x3 = .func (.func 37) #[] #[.pointer (some ⟨gb, 0, none⟩)]
  p4 : l.getD 4 false = true → x4 = .agg #[.bool (frQ x).1.1, .slice Ax (frQ x).1.2.length cx, .bool (frQ x).2.1, .slice Bx (frQ x).2.2.length dx]
  p5 : l.getD 5 false = true → x5 = .agg #[.bool (frQ x).1.1, .slice Ax (frQ x).1.2.length cx, .bool (frQ x).2.1, .slice Bx (frQ x).2.2.length dx]
  p6 : l.getD 6 false = true → IsF w x6 (x + x)
  p7 : l.getD 7 false = true → Is2 w x7 p q
  p8 : l.getD 8 false = true → Is2 w x8 p q
  p9 : l.getD 9 false = true → IsF w x9 p
  p10 : l.getD 10 false = true → IsF w x10 q
  p11 : l.getD 11 false = true → IsB w0.heap.size w x11
  p12 : l.getD 12 false = true → IsB w0.heap.size w x12
  p13 : l.getD 13 false = true → IsS w x11 p
  p14 : l.getD 14 false = true → IsS w x12 q
  s13 : l.getD 13 false = true → l.getD 11 false = true
  s14 : l.getD 14 false = true → l.getD 12 false = true
  ne11_12 : l.getD 11 false = true → l.getD 12 false = true → x11 ≠ x12

set_option maxRecDepth 100000 in
set_option maxHeartbeats 8000000 in
theorem slope_q (l : List Int) (A : Option Addr) (cc : Nat) (x : Rat) (Ax Bx : Option Addr) (cx dx B : Nat) (w : World) (hl : SlI w B A l cc) (h0 : 1 < l.length) (h6 : l.length ≤ 6) (h50 : ∀ z ∈ l, -1125899906842624 ≤ z ∧ z ≤ 1125899906842624) (hx : Few 2 x) (sx : Sl w Ax (frQ x).1.2 cx) (tx : Sl w Bx (frQ x).2.2 dx) :
    Calls Try.prog 22 #[.slice A l.length cc, .agg #[.bool (frQ x).1.1, .slice Ax (frQ x).1.2.length cx, .bool (frQ x).2.1, .slice Bx (frQ x).2.2.length dx]] w (FRes1 (frQ (chS (cfQ l) (chD x) l.length)) w) := by
  have hc2 : ∀ k, k < l.length - 1 → Few 2 (scQ l k) := fun k hk => by
    rw [scQ_int]
    have := sc_bd h50 (k := k) (by omega)
    exact few_two (by omega) (by omega)
  have h5 : Few 5 (x + x) := (q_add hx hx (by omega)).2
  have hF := clen_few6 (c := scQ l) (y := x + x) (n := l.length - 1) (by omega) hc2 h5
  have hEQ : cfQ l 1 + (x + x) * (clen (scQ l) (x + x) (l.length - 1) (l.length - 1 - 1)).1 - (clen (scQ l) (x + x) (l.length - 1) (l.length - 1 - 1)).2 = chS (cfQ l) (chD x) l.length := by
    have := slope_eq (cfQ l) x h0
    rwa [show l.length - 2 = l.length - 1 - 1 by omega] at this
  rw [← hEQ]
  have FP := (hF (l.length - 1 - 1) (by omega)).1
  have FQ := (hF (l.length - 1 - 1) (by omega)).2
  have FX := Lib.hid hx
  have HL := Lib.hid hl
  have Sx := Lib.hid sx
  have Tx := Lib.hid tx
  have HCLg : Hid (∀ (V0 V : World) (A1 B1 : Option Addr) (c1 d1 : Nat) (gb : Nat), BlkV V0 gb 28 #[.slice A l.length cc] → SlI V0 B A l cc → Below V0.heap.size V0 V → Sl V A1 (frQ (x + x)).1.2 c1 → Sl V B1 (frQ (x + x)).2.2 d1 →
      Calls Try.prog 36 #[.int .i64 ((l.length : Int) - 1), .func (.func 37) #[] #[.pointer (some ⟨gb, 0, none⟩)], .agg #[.bool (frQ (x + x)).1.1, .slice A1 (frQ (x + x)).1.2.length c1, .bool (frQ (x + x)).2.1, .slice B1 (frQ (x + x)).2.2.length d1]] V (F2Res (clen (scQ l) (x + x) (l.length - 1) (l.length - 1 - 1)).1 (clen (scQ l) (x + x) (l.length - 1) (l.length - 1 - 1)).2 V)) := fun V0 V A1 B1 c1 d1 gb hg hs hb s t => by
    have h := clen_s (l.length - 1) (by omega) (by omega) gb (scQ l) (x + x) V A1 B1 c1 d1 s t (fun k V' hb' hk0 hk => sclo_q l A cc B gb k V' ((hg.keep hb).keep hb') ((hs.below hb).below hb') (by omega) h6 h50) (fun k _ hk => hc2 k hk) h5 (fun j hj => hF j (by omega))
    rwa [show ((l.length - 1 : Nat) : Int) = (l.length : Int) - 1 by omega] at h
  have FC0 : Few 2 (cfQ l 1) := few_two (hl.bdD 1).1 (hl.bdD 1).2
  have hlen := hl.len
  clear hc2 hF hEQ hl hx sx tx h50
  generalize (clen (scQ l) (x + x) (l.length - 1) (l.length - 1 - 1)).1 = p at *
  generalize (clen (scQ l) (x + x) (l.length - 1) (l.length - 1 - 1)).2 = q at *
  go_enter Try.func22, Try.ntmps22
  go_upto_region 1 with (fail)
  generalize hwz : ((w.alloc (.cells #[.slice A l.length cc] 28)).alloc (.cells #[.bool (frQ x).1.1, .slice Ax (frQ x).1.2.length cx, .bool (frQ x).2.1, .slice Bx (frQ x).2.2.length dx] 59)).alloc (.cells #[.bool false, .slice none 0 0, .bool false, .slice none 0 0] 59) = wz at *
  have KC : Hid (BlkV wz w.heap.size 28 #[.slice A l.length cc]) := by rw [← hwz]; exact ((BlkV.fresh rfl _ _).alloc _).alloc _
  have KX : Hid (BxQ wz (w.heap.size + 1) x Ax cx Bx dx) := by rw [← hwz]; exact (BxQ.fresh (by simp) (Sx.out.alloc _) (Tx.out.alloc _)).alloc _
  have KO : Hid (Cf wz (w.heap.size + 2) false none 0 0 false none 0 0) := by rw [← hwz]; exact Cf.fresh (by simp) _ _ _ _ _ _ _ _ _
  have FO : Hid (Ff wz (w.heap.size + 2)) := by rw [← hwz]; exact Ff.fresh (by simp) _ _
  have HB : Hid (Below w.heap.size w wz) := by rw [← hwz]; exact below_mono (below_mono (blw1 _ _) (blw1 _ _)) (blw1 _ _)
  have HS : Hid (SlI wz B A l cc) := HL.out.below HB.out
  clear hwz Sx Tx HL
  have HCL : Hid (∀ (V : World) (A1 B1 : Option Addr) (c1 d1 : Nat), Sl V A1 (frQ (x + x)).1.2 c1 → Sl V B1 (frQ (x + x)).2.2 d1 → Below wz.heap.size wz V → Calls Try.prog 36 #[.int .i64 ((l.length : Int) - 1), .func (.func 37) #[] #[.pointer (some ⟨w.heap.size, 0, none⟩)], .agg #[.bool (frQ (x + x)).1.1, .slice A1 (frQ (x + x)).1.2.length c1, .bool (frQ (x + x)).2.1, .slice B1 (frQ (x + x)).2.2.length d1]] V (F2Res p q V)) := fun V A1 B1 c1 d1 s t hb => HCLg.out wz V A1 B1 c1 d1 _ KC.out HS.out hb s t
  clear HCLg
  have t2 : decide ((l.length : Int) < 2) = false := decide_eq_false (by omega)
  have qc0 : wz.cell? ⟨w.heap.size, 0, none⟩ = some (.slice A l.length cc) := KC.out.at_ 0 rfl
  go_upto_region 3 with fail
  go_cut [5, 6] from 11 to 21 (fun s5 s6 wx => ∃ (g1 : Nat) (A1 : Option Addr) (c1 : Nat) (B1 : Option Addr) (d1 : Nat) (g2 : Nat) (A2 : Option Addr) (c2 : Nat) (B2 : Option Addr) (d2 : Nat), s5 = .pointer (some ⟨g1, 0, none⟩) ∧ s6 = .pointer (some ⟨g2, 0, none⟩) ∧ BxQ wx g1 p A1 c1 B1 d1 ∧ BxQ wx g2 q A2 c2 B2 d2 ∧ Below wz.heap.size wz wx)
  case first =>
    refine wp_region_I' (by kernel_rfl) (by kernel_rfl) (fun a0 listed a wv => ∃ x0 x1 x2 x3 x4 x5 x6 x7 x8 x9 x10 x11 x12 x13 x14 : Value, a = (((((((((((((a0.put (some 12) x0).put (some 13) x1).put (some 14) x2).put (some 15) x3).put (some 16) x4).put (some 17) x5).put (some 18) x6).put (some 19) x7).put (some 11) x8).put (some 20) x9).put (some 21) x10).put (some 5) x11).put (some 6) x12) ∧ VI2 A l.length cc w.heap.size x Ax cx Bx dx p q wz listed wv x0 x1 x2 x3 x4 x5 x6 x7 x8 x9 x10 x11 x12 x13 x14) ?h0 ?hstep ?hend
    case h0 =>
      intro a0
      exact ⟨a0.tmps.getD 12 undef, a0.tmps.getD 13 undef, a0.tmps.getD 14 undef, a0.tmps.getD 15 undef, a0.tmps.getD 16 undef, a0.tmps.getD 17 undef, a0.tmps.getD 18 undef, a0.tmps.getD 19 undef, a0.tmps.getD 11 undef, a0.tmps.getD 20 undef, a0.tmps.getD 21 undef, a0.tmps.getD 5 undef, a0.tmps.getD 6 undef, undef, undef, by simp only [put_getD], (Below.refl _ _).drew, (fun h => by rw [getD_replicate_false] at h; cases h), (fun h => by rw [getD_replicate_false] at h; cases h), (fun h => by rw [getD_replicate_false] at h; cases h), (fun h => by rw [getD_replicate_false] at h; cases h), (fun h => by rw [getD_replicate_false] at h; cases h), (fun h => by rw [getD_replicate_false] at h; cases h), (fun h => by rw [getD_replicate_false] at h; cases h), (fun h => by rw [getD_replicate_false] at h; cases h), (fun h => by rw [getD_replicate_false] at h; cases h), (fun h => by rw [getD_replicate_false] at h; cases h), (fun h => by rw [getD_replicate_false] at h; cases h), (fun h => by rw [getD_replicate_false] at h; cases h), (fun h => by rw [getD_replicate_false] at h; cases h), (fun h => by rw [getD_replicate_false] at h; cases h), (fun h => by rw [getD_replicate_false] at h; cases h), (fun h => by rw [getD_replicate_false] at h; cases h), (fun h => by rw [getD_replicate_false] at h; cases h), (fun h => by rw [getD_replicate_false] at h; cases h)⟩
    case hstep =>
      intro listed a' w' hI i o hi hun hd
      obtain ⟨x0, x1, x2, x3, x4, x5, x6, x7, x8, x9, x10, x11, x12, x13, x14, rfl, H⟩ := hI
      have hlt := (Array.getElem?_eq_some_iff.1 hi).1
      have hlt2 : i < 15 := hlt
      clear hlt
      obtain rfl | rfl | rfl | rfl | rfl | rfl | rfl | rfl | rfl | rfl | rfl | rfl | rfl | rfl | rfl : i = 0 ∨ i = 1 ∨ i = 2 ∨ i = 3 ∨ i = 4 ∨ i = 5 ∨ i = 6 ∨ i = 7 ∨ i = 8 ∨ i = 9 ∨ i = 10 ∨ i = 11 ∨ i = 12 ∨ i = 13 ∨ i = 14 := by omega
      · skip
        clear hd hlt2
        have ho := hi
        simp only [List.getElem?_toArray, List.getElem?_cons_zero, Option.some.injEq] at ho
        subst ho
        refine wpOp_shut hi (fun K' hK => ?_)
        clear hi
        rw [if_pos (by rfl)]
        (try simp only [Act.put])
        have q0 : w'.cell? ⟨w.heap.size, 0, none⟩ = some (.slice A l.length cc) := (KC.out.below H.hb KC.out.lt).at_ 0 rfl
        go_simp
        exact hK.out _ _ ⟨.slice A l.length cc, x1, x2, x3, x4, x5, x6, x7, x8, x9, x10, x11, x12, x13, x14, by simp only [Act.put, List.setIfInBounds_toArray, List.set_cons_zero, List.set_cons_succ], H.hb, fun _ => rfl, fun h => H.p1 (by rwa [Go.getD_set_ne false (by decide)] at h), fun h => H.p2 (by rwa [Go.getD_set_ne false (by decide)] at h), fun h => H.p3 (by rwa [Go.getD_set_ne false (by decide)] at h), fun h => H.p4 (by rwa [Go.getD_set_ne false (by decide)] at h), fun h => H.p5 (by rwa [Go.getD_set_ne false (by decide)] at h), fun h => H.p6 (by rwa [Go.getD_set_ne false (by decide)] at h), fun h => H.p7 (by rwa [Go.getD_set_ne false (by decide)] at h), fun h => H.p8 (by rwa [Go.getD_set_ne false (by decide)] at h), fun h => H.p9 (by rwa [Go.getD_set_ne false (by decide)] at h), fun h => H.p10 (by rwa [Go.getD_set_ne false (by decide)] at h), fun h => H.p11 (by rwa [Go.getD_set_ne false (by decide)] at h), fun h => H.p12 (by rwa [Go.getD_set_ne false (by decide)] at h), fun h => H.p13 (by rwa [Go.getD_set_ne false (by decide)] at h), fun h => H.p14 (by rwa [Go.getD_set_ne false (by decide)] at h), fun h => by rw [Go.getD_set_ne false (by decide)] at h ⊢; exact H.s13 h, fun h => by rw [Go.getD_set_ne false (by decide)] at h ⊢; exact H.s14 h, fun h h' => H.ne11_12 (by rwa [Go.getD_set_ne false (by decide)] at h) (by rwa [Go.getD_set_ne false (by decide)] at h')⟩
      · skip
        have d0 := dep_of (d := 0) (by kernel_rfl) hi hd
        have y0 := H.p0 d0
        subst y0
        clear hd hlt2
        have ho := hi
        simp only [List.getElem?_toArray, List.getElem?_cons_succ, List.getElem?_cons_zero, Option.some.injEq] at ho
        subst ho
        refine wpOp_shut hi (fun K' hK => ?_)
        clear hi
        rw [if_pos (by rfl)]
        (try simp only [Act.put])
        go_simp
        exact hK.out _ _ ⟨.slice A l.length cc, .int .i64 l.length, x2, x3, x4, x5, x6, x7, x8, x9, x10, x11, x12, x13, x14, by simp only [Act.put, List.setIfInBounds_toArray, List.set_cons_zero, List.set_cons_succ], H.hb, fun h => H.p0 (by rwa [Go.getD_set_ne false (by decide)] at h), fun _ => rfl, fun h => H.p2 (by rwa [Go.getD_set_ne false (by decide)] at h), fun h => H.p3 (by rwa [Go.getD_set_ne false (by decide)] at h), fun h => H.p4 (by rwa [Go.getD_set_ne false (by decide)] at h), fun h => H.p5 (by rwa [Go.getD_set_ne false (by decide)] at h), fun h => H.p6 (by rwa [Go.getD_set_ne false (by decide)] at h), fun h => H.p7 (by rwa [Go.getD_set_ne false (by decide)] at h), fun h => H.p8 (by rwa [Go.getD_set_ne false (by decide)] at h), fun h => H.p9 (by rwa [Go.getD_set_ne false (by decide)] at h), fun h => H.p10 (by rwa [Go.getD_set_ne false (by decide)] at h), fun h => H.p11 (by rwa [Go.getD_set_ne false (by decide)] at h), fun h => H.p12 (by rwa [Go.getD_set_ne false (by decide)] at h), fun h => H.p13 (by rwa [Go.getD_set_ne false (by decide)] at h), fun h => H.p14 (by rwa [Go.getD_set_ne false (by decide)] at h), fun h => by rw [Go.getD_set_ne false (by decide)] at h ⊢; exact H.s13 h, fun h => by rw [Go.getD_set_ne false (by decide)] at h ⊢; exact H.s14 h, fun h h' => H.ne11_12 (by rwa [Go.getD_set_ne false (by decide)] at h) (by rwa [Go.getD_set_ne false (by decide)] at h')⟩
      · skip
        have d1 := dep_of (d := 1) (by kernel_rfl) hi hd
        have y1 := H.p1 d1
        subst y1
        clear hd hlt2
        have ho := hi
        simp only [List.getElem?_toArray, List.getElem?_cons_succ, List.getElem?_cons_zero, Option.some.injEq] at ho
        subst ho
        refine wpOp_shut hi (fun K' hK => ?_)
        clear hi
        rw [if_pos (by rfl)]
        (try simp only [Act.put])
        have hwr : IntKind.i64.wrap ((l.length : Int) - 1) = (l.length : Int) - 1 := IntWalk.i64_in _ (by omega)
        go_simp
        exact hK.out _ _ ⟨x0, .int .i64 l.length, .int .i64 ((l.length : Int) - 1), x3, x4, x5, x6, x7, x8, x9, x10, x11, x12, x13, x14, by simp only [Act.put, List.setIfInBounds_toArray, List.set_cons_zero, List.set_cons_succ], H.hb, fun h => H.p0 (by rwa [Go.getD_set_ne false (by decide)] at h), fun h => H.p1 (by rwa [Go.getD_set_ne false (by decide)] at h), fun _ => rfl, fun h => H.p3 (by rwa [Go.getD_set_ne false (by decide)] at h), fun h => H.p4 (by rwa [Go.getD_set_ne false (by decide)] at h), fun h => H.p5 (by rwa [Go.getD_set_ne false (by decide)] at h), fun h => H.p6 (by rwa [Go.getD_set_ne false (by decide)] at h), fun h => H.p7 (by rwa [Go.getD_set_ne false (by decide)] at h), fun h => H.p8 (by rwa [Go.getD_set_ne false (by decide)] at h), fun h => H.p9 (by rwa [Go.getD_set_ne false (by decide)] at h), fun h => H.p10 (by rwa [Go.getD_set_ne false (by decide)] at h), fun h => H.p11 (by rwa [Go.getD_set_ne false (by decide)] at h), fun h => H.p12 (by rwa [Go.getD_set_ne false (by decide)] at h), fun h => H.p13 (by rwa [Go.getD_set_ne false (by decide)] at h), fun h => H.p14 (by rwa [Go.getD_set_ne false (by decide)] at h), fun h => by rw [Go.getD_set_ne false (by decide)] at h ⊢; exact H.s13 h, fun h => by rw [Go.getD_set_ne false (by decide)] at h ⊢; exact H.s14 h, fun h h' => H.ne11_12 (by rwa [Go.getD_set_ne false (by decide)] at h) (by rwa [Go.getD_set_ne false (by decide)] at h')⟩
      · skip
        clear hd hlt2
        have ho := hi
        simp only [List.getElem?_toArray, List.getElem?_cons_succ, List.getElem?_cons_zero, Option.some.injEq] at ho
        subst ho
        refine wpOp_shut hi (fun K' hK => ?_)
        clear hi
        rw [if_pos (by rfl)]
        (try simp only [Act.put])
        go_simp
        exact hK.out _ _ ⟨x0, x1, x2, .func (.func 37) #[] #[.pointer (some ⟨w.heap.size, 0, none⟩)], x4, x5, x6, x7, x8, x9, x10, x11, x12, x13, x14, by simp only [Act.put, List.setIfInBounds_toArray, List.set_cons_zero, List.set_cons_succ], H.hb, fun h => H.p0 (by rwa [Go.getD_set_ne false (by decide)] at h), fun h => H.p1 (by rwa [Go.getD_set_ne false (by decide)] at h), fun h => H.p2 (by rwa [Go.getD_set_ne false (by decide)] at h), fun _ => rfl, fun h => H.p4 (by rwa [Go.getD_set_ne false (by decide)] at h), fun h => H.p5 (by rwa [Go.getD_set_ne false (by decide)] at h), fun h => H.p6 (by rwa [Go.getD_set_ne false (by decide)] at h), fun h => H.p7 (by rwa [Go.getD_set_ne false (by decide)] at h), fun h => H.p8 (by rwa [Go.getD_set_ne false (by decide)] at h), fun h => H.p9 (by rwa [Go.getD_set_ne false (by decide)] at h), fun h => H.p10 (by rwa [Go.getD_set_ne false (by decide)] at h), fun h => H.p11 (by rwa [Go.getD_set_ne false (by decide)] at h), fun h => H.p12 (by rwa [Go.getD_set_ne false (by decide)] at h), fun h => H.p13 (by rwa [Go.getD_set_ne false (by decide)] at h), fun h => H.p14 (by rwa [Go.getD_set_ne false (by decide)] at h), fun h => by rw [Go.getD_set_ne false (by decide)] at h ⊢; exact H.s13 h, fun h => by rw [Go.getD_set_ne false (by decide)] at h ⊢; exact H.s14 h, fun h h' => H.ne11_12 (by rwa [Go.getD_set_ne false (by decide)] at h) (by rwa [Go.getD_set_ne false (by decide)] at h')⟩
      · skip
        clear hd hlt2
        have ho := hi
        simp only [List.getElem?_toArray, List.getElem?_cons_succ, List.getElem?_cons_zero, Option.some.injEq] at ho
        subst ho
        refine wpOp_shut hi (fun K' hK => ?_)
        clear hi
        rw [if_pos (by rfl)]
        (try simp only [Act.put])
        have hkx := KX.out.keep H.hb
        have k0 : w'.cell? ⟨w.heap.size + 1, 0, none⟩ = some (.bool (frQ x).1.1) := hkx.k.1
        have k1 : w'.cell? ⟨w.heap.size + 1, 1, none⟩ = some (.slice Ax (frQ x).1.2.length cx) := hkx.k.2.1
        have k2 : w'.cell? ⟨w.heap.size + 1, 2, none⟩ = some (.bool (frQ x).2.1) := hkx.k.2.2.1
        have k3 : w'.cell? ⟨w.heap.size + 1, 3, none⟩ = some (.slice Bx (frQ x).2.2.length dx) := hkx.k.2.2.2
        clear hkx
        go_simp
        exact hK.out _ _ ⟨x0, x1, x2, x3, .agg #[.bool (frQ x).1.1, .slice Ax (frQ x).1.2.length cx, .bool (frQ x).2.1, .slice Bx (frQ x).2.2.length dx], x5, x6, x7, x8, x9, x10, x11, x12, x13, x14, by simp only [Act.put, List.setIfInBounds_toArray, List.set_cons_zero, List.set_cons_succ], H.hb, fun h => H.p0 (by rwa [Go.getD_set_ne false (by decide)] at h), fun h => H.p1 (by rwa [Go.getD_set_ne false (by decide)] at h), fun h => H.p2 (by rwa [Go.getD_set_ne false (by decide)] at h), fun h => H.p3 (by rwa [Go.getD_set_ne false (by decide)] at h), fun _ => rfl, fun h => H.p5 (by rwa [Go.getD_set_ne false (by decide)] at h), fun h => H.p6 (by rwa [Go.getD_set_ne false (by decide)] at h), fun h => H.p7 (by rwa [Go.getD_set_ne false (by decide)] at h), fun h => H.p8 (by rwa [Go.getD_set_ne false (by decide)] at h), fun h => H.p9 (by rwa [Go.getD_set_ne false (by decide)] at h), fun h => H.p10 (by rwa [Go.getD_set_ne false (by decide)] at h), fun h => H.p11 (by rwa [Go.getD_set_ne false (by decide)] at h), fun h => H.p12 (by rwa [Go.getD_set_ne false (by decide)] at h), fun h => H.p13 (by rwa [Go.getD_set_ne false (by decide)] at h), fun h => H.p14 (by rwa [Go.getD_set_ne false (by decide)] at h), fun h => by rw [Go.getD_set_ne false (by decide)] at h ⊢; exact H.s13 h, fun h => by rw [Go.getD_set_ne false (by decide)] at h ⊢; exact H.s14 h, fun h h' => H.ne11_12 (by rwa [Go.getD_set_ne false (by decide)] at h) (by rwa [Go.getD_set_ne false (by decide)] at h')⟩
      · skip
        clear hd hlt2
        have ho := hi
        simp only [List.getElem?_toArray, List.getElem?_cons_succ, List.getElem?_cons_zero, Option.some.injEq] at ho
        subst ho
        refine wpOp_shut hi (fun K' hK => ?_)
        clear hi
        rw [if_pos (by rfl)]
        (try simp only [Act.put])
        have hkx := KX.out.keep H.hb
        have k0 : w'.cell? ⟨w.heap.size + 1, 0, none⟩ = some (.bool (frQ x).1.1) := hkx.k.1
        have k1 : w'.cell? ⟨w.heap.size + 1, 1, none⟩ = some (.slice Ax (frQ x).1.2.length cx) := hkx.k.2.1
        have k2 : w'.cell? ⟨w.heap.size + 1, 2, none⟩ = some (.bool (frQ x).2.1) := hkx.k.2.2.1
        have k3 : w'.cell? ⟨w.heap.size + 1, 3, none⟩ = some (.slice Bx (frQ x).2.2.length dx) := hkx.k.2.2.2
        clear hkx
        go_simp
        exact hK.out _ _ ⟨x0, x1, x2, x3, x4, .agg #[.bool (frQ x).1.1, .slice Ax (frQ x).1.2.length cx, .bool (frQ x).2.1, .slice Bx (frQ x).2.2.length dx], x6, x7, x8, x9, x10, x11, x12, x13, x14, by simp only [Act.put, List.setIfInBounds_toArray, List.set_cons_zero, List.set_cons_succ], H.hb, fun h => H.p0 (by rwa [Go.getD_set_ne false (by decide)] at h), fun h => H.p1 (by rwa [Go.getD_set_ne false (by decide)] at h), fun h => H.p2 (by rwa [Go.getD_set_ne false (by decide)] at h), fun h => H.p3 (by rwa [Go.getD_set_ne false (by decide)] at h), fun h => H.p4 (by rwa [Go.getD_set_ne false (by decide)] at h), fun _ => rfl, fun h => H.p6 (by rwa [Go.getD_set_ne false (by decide)] at h), fun h => H.p7 (by rwa [Go.getD_set_ne false (by decide)] at h), fun h => H.p8 (by rwa [Go.getD_set_ne false (by decide)] at h), fun h => H.p9 (by rwa [Go.getD_set_ne false (by decide)] at h), fun h => H.p10 (by rwa [Go.getD_set_ne false (by decide)] at h), fun h => H.p11 (by rwa [Go.getD_set_ne false (by decide)] at h), fun h => H.p12 (by rwa [Go.getD_set_ne false (by decide)] at h), fun h => H.p13 (by rwa [Go.getD_set_ne false (by decide)] at h), fun h => H.p14 (by rwa [Go.getD_set_ne false (by decide)] at h), fun h => by rw [Go.getD_set_ne false (by decide)] at h ⊢; exact H.s13 h, fun h => by rw [Go.getD_set_ne false (by decide)] at h ⊢; exact H.s14 h, fun h h' => H.ne11_12 (by rwa [Go.getD_set_ne false (by decide)] at h) (by rwa [Go.getD_set_ne false (by decide)] at h')⟩
      · skip
        have d4 := dep_of (d := 4) (by kernel_rfl) hi hd
        have d5 := dep_of (d := 5) (by kernel_rfl) hi hd
        have y4 := H.p4 d4
        subst y4
        have y5 := H.p5 d5
        subst y5
        clear hd hlt2
        have ho := hi
        simp only [List.getElem?_toArray, List.getElem?_cons_succ, List.getElem?_cons_zero, Option.some.injEq] at ho
        subst ho
        refine wpOp_shut hi (fun K' hK => ?_)
        clear hi
        rw [if_pos (by rfl)]
        (try simp only [Act.put])
        go_simp
        (with_reducible refine (eadd_q FX.out FX.out (by omega) w' Ax Bx Ax Bx cx dx cx dx (KX.out.keep H.hb).s (KX.out.keep H.hb).t (KX.out.keep H.hb).s (KX.out.keep H.hb).t).mono ?_)
        rintro e w2 ⟨A6, c6, B6, e6, rfl, s6, t6, hb⟩
        (try dsimp only at s6)
        (try dsimp only at t6)
        (try dsimp only)
        (try go_wp2_with fail)
        exact hK.out _ _ ⟨x0, x1, x2, x3, .agg #[.bool (frQ x).1.1, .slice Ax (frQ x).1.2.length cx, .bool (frQ x).2.1, .slice Bx (frQ x).2.2.length dx], .agg #[.bool (frQ x).1.1, .slice Ax (frQ x).1.2.length cx, .bool (frQ x).2.1, .slice Bx (frQ x).2.2.length dx], .agg #[.bool (frQ (x + x)).1.1, .slice A6 (frQ (x + x)).1.2.length c6, .bool (frQ (x + x)).2.1, .slice B6 (frQ (x + x)).2.2.length e6], x7, x8, x9, x10, x11, x12, x13, x14, by simp only [Act.put, List.setIfInBounds_toArray, List.set_cons_zero, List.set_cons_succ], below_mono H.hb hb, fun h => H.p0 (by rwa [Go.getD_set_ne false (by decide)] at h), fun h => H.p1 (by rwa [Go.getD_set_ne false (by decide)] at h), fun h => H.p2 (by rwa [Go.getD_set_ne false (by decide)] at h), fun h => H.p3 (by rwa [Go.getD_set_ne false (by decide)] at h), fun h => H.p4 (by rwa [Go.getD_set_ne false (by decide)] at h), fun h => H.p5 (by rwa [Go.getD_set_ne false (by decide)] at h), fun _ => ⟨_, _, _, _, rfl, s6, t6⟩, fun h => (H.p7 (by rwa [Go.getD_set_ne false (by decide)] at h)).keep hb, fun h => (H.p8 (by rwa [Go.getD_set_ne false (by decide)] at h)).keep hb, fun h => (H.p9 (by rwa [Go.getD_set_ne false (by decide)] at h)).keep hb, fun h => (H.p10 (by rwa [Go.getD_set_ne false (by decide)] at h)).keep hb, fun h => (H.p11 (by rwa [Go.getD_set_ne false (by decide)] at h)).keep hb, fun h => (H.p12 (by rwa [Go.getD_set_ne false (by decide)] at h)).keep hb, fun h => (H.p13 (by rwa [Go.getD_set_ne false (by decide)] at h)).keep hb, fun h => (H.p14 (by rwa [Go.getD_set_ne false (by decide)] at h)).keep hb, fun h => by rw [Go.getD_set_ne false (by decide)] at h ⊢; exact H.s13 h, fun h => by rw [Go.getD_set_ne false (by decide)] at h ⊢; exact H.s14 h, fun h h' => H.ne11_12 (by rwa [Go.getD_set_ne false (by decide)] at h) (by rwa [Go.getD_set_ne false (by decide)] at h')⟩
      · skip
        have d2 := dep_of (d := 2) (by kernel_rfl) hi hd
        have d3 := dep_of (d := 3) (by kernel_rfl) hi hd
        have d6 := dep_of (d := 6) (by kernel_rfl) hi hd
        have y2 := H.p2 d2
        subst y2
        have y3 := H.p3 d3
        subst y3
        obtain ⟨A6, c6, B6, e6, rfl, s6, t6⟩ := H.p6 d6
        clear hd hlt2
        have ho := hi
        simp only [List.getElem?_toArray, List.getElem?_cons_succ, List.getElem?_cons_zero, Option.some.injEq] at ho
        subst ho
        refine wpOp_shut hi (fun K' hK => ?_)
        clear hi
        rw [if_pos (by rfl)]
        (try simp only [Act.put])
        go_simp
        (with_reducible refine (HCL.out w' A6 B6 c6 e6 s6 t6 H.hb).mono ?_)
        rintro e w2 ⟨A7, c7, B7, e7, C7, f7, D7, g7, rfl, s7, t7, u7, v7, hb⟩
        (try dsimp only at s7)
        (try dsimp only at t7)
        (try dsimp only at u7)
        (try dsimp only at v7)
        (try dsimp only)
        (try go_wp2_with fail)
        exact hK.out _ _ ⟨x0, x1, .int .i64 ((l.length : Int) - 1), .func (.func 37) #[] #[.pointer (some ⟨w.heap.size, 0, none⟩)], x4, x5, .agg #[.bool (frQ (x + x)).1.1, .slice A6 (frQ (x + x)).1.2.length c6, .bool (frQ (x + x)).2.1, .slice B6 (frQ (x + x)).2.2.length e6], .tuple #[.agg #[.bool (frQ p).1.1, .slice A7 (frQ p).1.2.length c7, .bool (frQ p).2.1, .slice B7 (frQ p).2.2.length e7], .agg #[.bool (frQ q).1.1, .slice C7 (frQ q).1.2.length f7, .bool (frQ q).2.1, .slice D7 (frQ q).2.2.length g7]], x8, x9, x10, x11, x12, x13, x14, by simp only [Act.put, List.setIfInBounds_toArray, List.set_cons_zero, List.set_cons_succ], below_mono H.hb hb, fun h => H.p0 (by rwa [Go.getD_set_ne false (by decide)] at h), fun h => H.p1 (by rwa [Go.getD_set_ne false (by decide)] at h), fun h => H.p2 (by rwa [Go.getD_set_ne false (by decide)] at h), fun h => H.p3 (by rwa [Go.getD_set_ne false (by decide)] at h), fun h => H.p4 (by rwa [Go.getD_set_ne false (by decide)] at h), fun h => H.p5 (by rwa [Go.getD_set_ne false (by decide)] at h), fun h => (H.p6 (by rwa [Go.getD_set_ne false (by decide)] at h)).keep hb, fun _ => ⟨_, _, _, _, _, _, _, _, rfl, s7, t7, u7, v7⟩, fun h => (H.p8 (by rwa [Go.getD_set_ne false (by decide)] at h)).keep hb, fun h => (H.p9 (by rwa [Go.getD_set_ne false (by decide)] at h)).keep hb, fun h => (H.p10 (by rwa [Go.getD_set_ne false (by decide)] at h)).keep hb, fun h => (H.p11 (by rwa [Go.getD_set_ne false (by decide)] at h)).keep hb, fun h => (H.p12 (by rwa [Go.getD_set_ne false (by decide)] at h)).keep hb, fun h => (H.p13 (by rwa [Go.getD_set_ne false (by decide)] at h)).keep hb, fun h => (H.p14 (by rwa [Go.getD_set_ne false (by decide)] at h)).keep hb, fun h => by rw [Go.getD_set_ne false (by decide)] at h ⊢; exact H.s13 h, fun h => by rw [Go.getD_set_ne false (by decide)] at h ⊢; exact H.s14 h, fun h h' => H.ne11_12 (by rwa [Go.getD_set_ne false (by decide)] at h) (by rwa [Go.getD_set_ne false (by decide)] at h')⟩
      · skip
        have d7 := dep_of (d := 7) (by kernel_rfl) hi hd
        obtain ⟨A7, c7, B7, e7, C7, f7, D7, g7, rfl, s7, t7, u7, v7⟩ := H.p7 d7
        clear hd hlt2
        have ho := hi
        simp only [List.getElem?_toArray, List.getElem?_cons_succ, List.getElem?_cons_zero, Option.some.injEq] at ho
        subst ho
        refine wpOp_shut hi (fun K' hK => ?_)
        clear hi
        rw [if_pos (by rfl)]
        (try simp only [Act.put])
        go_simp
        exact hK.out _ _ ⟨x0, x1, x2, x3, x4, x5, x6, .tuple #[.agg #[.bool (frQ p).1.1, .slice A7 (frQ p).1.2.length c7, .bool (frQ p).2.1, .slice B7 (frQ p).2.2.length e7], .agg #[.bool (frQ q).1.1, .slice C7 (frQ q).1.2.length f7, .bool (frQ q).2.1, .slice D7 (frQ q).2.2.length g7]], .tuple #[.agg #[.bool (frQ p).1.1, .slice A7 (frQ p).1.2.length c7, .bool (frQ p).2.1, .slice B7 (frQ p).2.2.length e7], .agg #[.bool (frQ q).1.1, .slice C7 (frQ q).1.2.length f7, .bool (frQ q).2.1, .slice D7 (frQ q).2.2.length g7]], x9, x10, x11, x12, x13, x14, by simp only [Act.put, List.setIfInBounds_toArray, List.set_cons_zero, List.set_cons_succ], H.hb, fun h => H.p0 (by rwa [Go.getD_set_ne false (by decide)] at h), fun h => H.p1 (by rwa [Go.getD_set_ne false (by decide)] at h), fun h => H.p2 (by rwa [Go.getD_set_ne false (by decide)] at h), fun h => H.p3 (by rwa [Go.getD_set_ne false (by decide)] at h), fun h => H.p4 (by rwa [Go.getD_set_ne false (by decide)] at h), fun h => H.p5 (by rwa [Go.getD_set_ne false (by decide)] at h), fun h => H.p6 (by rwa [Go.getD_set_ne false (by decide)] at h), fun h => H.p7 (by rwa [Go.getD_set_ne false (by decide)] at h), fun _ => ⟨_, _, _, _, _, _, _, _, rfl, s7, t7, u7, v7⟩, fun h => H.p9 (by rwa [Go.getD_set_ne false (by decide)] at h), fun h => H.p10 (by rwa [Go.getD_set_ne false (by decide)] at h), fun h => H.p11 (by rwa [Go.getD_set_ne false (by decide)] at h), fun h => H.p12 (by rwa [Go.getD_set_ne false (by decide)] at h), fun h => H.p13 (by rwa [Go.getD_set_ne false (by decide)] at h), fun h => H.p14 (by rwa [Go.getD_set_ne false (by decide)] at h), fun h => by rw [Go.getD_set_ne false (by decide)] at h ⊢; exact H.s13 h, fun h => by rw [Go.getD_set_ne false (by decide)] at h ⊢; exact H.s14 h, fun h h' => H.ne11_12 (by rwa [Go.getD_set_ne false (by decide)] at h) (by rwa [Go.getD_set_ne false (by decide)] at h')⟩
      · skip
        have d8 := dep_of (d := 8) (by kernel_rfl) hi hd
        obtain ⟨A8, c8, B8, e8, C8, f8, D8, g8, rfl, s8, t8, u8, v8⟩ := H.p8 d8
        clear hd hlt2
        have ho := hi
        simp only [List.getElem?_toArray, List.getElem?_cons_succ, List.getElem?_cons_zero, Option.some.injEq] at ho
        subst ho
        refine wpOp_shut hi (fun K' hK => ?_)
        clear hi
        rw [if_pos (by rfl)]
        (try simp only [Act.put])
        go_simp
        exact hK.out _ _ ⟨x0, x1, x2, x3, x4, x5, x6, x7, .tuple #[.agg #[.bool (frQ p).1.1, .slice A8 (frQ p).1.2.length c8, .bool (frQ p).2.1, .slice B8 (frQ p).2.2.length e8], .agg #[.bool (frQ q).1.1, .slice C8 (frQ q).1.2.length f8, .bool (frQ q).2.1, .slice D8 (frQ q).2.2.length g8]], .agg #[.bool (frQ p).1.1, .slice A8 (frQ p).1.2.length c8, .bool (frQ p).2.1, .slice B8 (frQ p).2.2.length e8], x10, x11, x12, x13, x14, by simp only [Act.put, List.setIfInBounds_toArray, List.set_cons_zero, List.set_cons_succ], H.hb, fun h => H.p0 (by rwa [Go.getD_set_ne false (by decide)] at h), fun h => H.p1 (by rwa [Go.getD_set_ne false (by decide)] at h), fun h => H.p2 (by rwa [Go.getD_set_ne false (by decide)] at h), fun h => H.p3 (by rwa [Go.getD_set_ne false (by decide)] at h), fun h => H.p4 (by rwa [Go.getD_set_ne false (by decide)] at h), fun h => H.p5 (by rwa [Go.getD_set_ne false (by decide)] at h), fun h => H.p6 (by rwa [Go.getD_set_ne false (by decide)] at h), fun h => H.p7 (by rwa [Go.getD_set_ne false (by decide)] at h), fun h => H.p8 (by rwa [Go.getD_set_ne false (by decide)] at h), fun _ => ⟨_, _, _, _, rfl, s8, t8⟩, fun h => H.p10 (by rwa [Go.getD_set_ne false (by decide)] at h), fun h => H.p11 (by rwa [Go.getD_set_ne false (by decide)] at h), fun h => H.p12 (by rwa [Go.getD_set_ne false (by decide)] at h), fun h => H.p13 (by rwa [Go.getD_set_ne false (by decide)] at h), fun h => H.p14 (by rwa [Go.getD_set_ne false (by decide)] at h), fun h => by rw [Go.getD_set_ne false (by decide)] at h ⊢; exact H.s13 h, fun h => by rw [Go.getD_set_ne false (by decide)] at h ⊢; exact H.s14 h, fun h h' => H.ne11_12 (by rwa [Go.getD_set_ne false (by decide)] at h) (by rwa [Go.getD_set_ne false (by decide)] at h')⟩
      · skip
        have d8 := dep_of (d := 8) (by kernel_rfl) hi hd
        obtain ⟨A8, c8, B8, e8, C8, f8, D8, g8, rfl, s8, t8, u8, v8⟩ := H.p8 d8
        clear hd hlt2
        have ho := hi
        simp only [List.getElem?_toArray, List.getElem?_cons_succ, List.getElem?_cons_zero, Option.some.injEq] at ho
        subst ho
        refine wpOp_shut hi (fun K' hK => ?_)
        clear hi
        rw [if_pos (by rfl)]
        (try simp only [Act.put])
        go_simp
        exact hK.out _ _ ⟨x0, x1, x2, x3, x4, x5, x6, x7, .tuple #[.agg #[.bool (frQ p).1.1, .slice A8 (frQ p).1.2.length c8, .bool (frQ p).2.1, .slice B8 (frQ p).2.2.length e8], .agg #[.bool (frQ q).1.1, .slice C8 (frQ q).1.2.length f8, .bool (frQ q).2.1, .slice D8 (frQ q).2.2.length g8]], x9, .agg #[.bool (frQ q).1.1, .slice C8 (frQ q).1.2.length f8, .bool (frQ q).2.1, .slice D8 (frQ q).2.2.length g8], x11, x12, x13, x14, by simp only [Act.put, List.setIfInBounds_toArray, List.set_cons_zero, List.set_cons_succ], H.hb, fun h => H.p0 (by rwa [Go.getD_set_ne false (by decide)] at h), fun h => H.p1 (by rwa [Go.getD_set_ne false (by decide)] at h), fun h => H.p2 (by rwa [Go.getD_set_ne false (by decide)] at h), fun h => H.p3 (by rwa [Go.getD_set_ne false (by decide)] at h), fun h => H.p4 (by rwa [Go.getD_set_ne false (by decide)] at h), fun h => H.p5 (by rwa [Go.getD_set_ne false (by decide)] at h), fun h => H.p6 (by rwa [Go.getD_set_ne false (by decide)] at h), fun h => H.p7 (by rwa [Go.getD_set_ne false (by decide)] at h), fun h => H.p8 (by rwa [Go.getD_set_ne false (by decide)] at h), fun h => H.p9 (by rwa [Go.getD_set_ne false (by decide)] at h), fun _ => ⟨_, _, _, _, rfl, u8, v8⟩, fun h => H.p11 (by rwa [Go.getD_set_ne false (by decide)] at h), fun h => H.p12 (by rwa [Go.getD_set_ne false (by decide)] at h), fun h => H.p13 (by rwa [Go.getD_set_ne false (by decide)] at h), fun h => H.p14 (by rwa [Go.getD_set_ne false (by decide)] at h), fun h => by rw [Go.getD_set_ne false (by decide)] at h ⊢; exact H.s13 h, fun h => by rw [Go.getD_set_ne false (by decide)] at h ⊢; exact H.s14 h, fun h h' => H.ne11_12 (by rwa [Go.getD_set_ne false (by decide)] at h) (by rwa [Go.getD_set_ne false (by decide)] at h')⟩
      · skip
        clear hd hlt2
        have ho := hi
        simp only [List.getElem?_toArray, List.getElem?_cons_succ, List.getElem?_cons_zero, Option.some.injEq] at ho
        subst ho
        refine wpOp_shut hi (fun K' hK => ?_)
        clear hi
        rw [if_pos (by rfl)]
        (try simp only [Act.put])
        have hb := blw1 w' (.cells #[.bool false, .slice none 0 0, .bool false, .slice none 0 0] 59)
        go_simp
        exact hK.out _ _ ⟨x0, x1, x2, x3, x4, x5, x6, x7, x8, x9, x10, .pointer (some ⟨w'.heap.size, 0, none⟩), x12, x13, x14, by simp only [Act.put, List.setIfInBounds_toArray, List.set_cons_zero, List.set_cons_succ], below_mono H.hb hb, fun h => H.p0 (by rwa [Go.getD_set_ne false (by decide)] at h), fun h => H.p1 (by rwa [Go.getD_set_ne false (by decide)] at h), fun h => H.p2 (by rwa [Go.getD_set_ne false (by decide)] at h), fun h => H.p3 (by rwa [Go.getD_set_ne false (by decide)] at h), fun h => H.p4 (by rwa [Go.getD_set_ne false (by decide)] at h), fun h => H.p5 (by rwa [Go.getD_set_ne false (by decide)] at h), fun h => (H.p6 (by rwa [Go.getD_set_ne false (by decide)] at h)).keep hb, fun h => (H.p7 (by rwa [Go.getD_set_ne false (by decide)] at h)).keep hb, fun h => (H.p8 (by rwa [Go.getD_set_ne false (by decide)] at h)).keep hb, fun h => (H.p9 (by rwa [Go.getD_set_ne false (by decide)] at h)).keep hb, fun h => (H.p10 (by rwa [Go.getD_set_ne false (by decide)] at h)).keep hb, fun _ => IsB.fresh H.hb.size, fun h => (H.p12 (by rwa [Go.getD_set_ne false (by decide)] at h)).keep hb, fun h => absurd (H.s13 (by rwa [Go.getD_set_ne false (by decide)] at h)) (by rw [Go.getD_both hun]; decide), fun h => (H.p14 (by rwa [Go.getD_set_ne false (by decide)] at h)).keep hb, fun h => absurd (H.s13 (by rwa [Go.getD_set_ne false (by decide)] at h)) (by rw [Go.getD_both hun]; decide), fun h => by rw [Go.getD_set_ne false (by decide)] at h ⊢; exact H.s14 h, fun _ h' => ((H.p12 (by rwa [Go.getD_set_ne false (by decide)] at h')).ne).symm⟩
      · skip
        clear hd hlt2
        have ho := hi
        simp only [List.getElem?_toArray, List.getElem?_cons_succ, List.getElem?_cons_zero, Option.some.injEq] at ho
        subst ho
        refine wpOp_shut hi (fun K' hK => ?_)
        clear hi
        rw [if_pos (by rfl)]
        (try simp only [Act.put])
        have hb := blw1 w' (.cells #[.bool false, .slice none 0 0, .bool false, .slice none 0 0] 59)
        go_simp
        exact hK.out _ _ ⟨x0, x1, x2, x3, x4, x5, x6, x7, x8, x9, x10, x11, .pointer (some ⟨w'.heap.size, 0, none⟩), x13, x14, by simp only [Act.put, List.setIfInBounds_toArray, List.set_cons_zero, List.set_cons_succ], below_mono H.hb hb, fun h => H.p0 (by rwa [Go.getD_set_ne false (by decide)] at h), fun h => H.p1 (by rwa [Go.getD_set_ne false (by decide)] at h), fun h => H.p2 (by rwa [Go.getD_set_ne false (by decide)] at h), fun h => H.p3 (by rwa [Go.getD_set_ne false (by decide)] at h), fun h => H.p4 (by rwa [Go.getD_set_ne false (by decide)] at h), fun h => H.p5 (by rwa [Go.getD_set_ne false (by decide)] at h), fun h => (H.p6 (by rwa [Go.getD_set_ne false (by decide)] at h)).keep hb, fun h => (H.p7 (by rwa [Go.getD_set_ne false (by decide)] at h)).keep hb, fun h => (H.p8 (by rwa [Go.getD_set_ne false (by decide)] at h)).keep hb, fun h => (H.p9 (by rwa [Go.getD_set_ne false (by decide)] at h)).keep hb, fun h => (H.p10 (by rwa [Go.getD_set_ne false (by decide)] at h)).keep hb, fun h => (H.p11 (by rwa [Go.getD_set_ne false (by decide)] at h)).keep hb, fun _ => IsB.fresh H.hb.size, fun h => (H.p13 (by rwa [Go.getD_set_ne false (by decide)] at h)).keep hb, fun h => absurd (H.s14 (by rwa [Go.getD_set_ne false (by decide)] at h)) (by rw [Go.getD_both hun]; decide), fun h => by rw [Go.getD_set_ne false (by decide)] at h ⊢; exact H.s13 h, fun h => absurd (H.s14 (by rwa [Go.getD_set_ne false (by decide)] at h)) (by rw [Go.getD_both hun]; decide), fun h _ => (H.p11 (by rwa [Go.getD_set_ne false (by decide)] at h)).ne⟩
      · skip
        have d9 := dep_of (d := 9) (by kernel_rfl) hi hd
        have d11 := dep_of (d := 11) (by kernel_rfl) hi hd
        have d12 := dep_of (d := 12) (by kernel_rfl) hi hd
        obtain ⟨A9, c9, B9, e9, rfl, s9, t9⟩ := H.p9 d9
        obtain ⟨b11, n111, A111, m111, c111, n211, A211, m211, c211, rfl, hg11, hk11, hf11⟩ := H.p11 d11
        obtain ⟨b12, n112, A112, m112, c112, n212, A212, m212, c212, rfl, hg12, hk12, hf12⟩ := H.p12 d12
        clear hd hlt2
        have ho := hi
        simp only [List.getElem?_toArray, List.getElem?_cons_succ, List.getElem?_cons_zero, Option.some.injEq] at ho
        subst ho
        refine wpOp_shut hi (fun K' hK => ?_)
        clear hi
        rw [if_pos (by rfl)]
        (try simp only [Act.put])
        have z0 := hk11.1
        have z1 := hk11.2.1
        have z2 := hk11.2.2.1
        have z3 := hk11.2.2.2
        have y0 := hf11.1
        have y1 := hf11.2.1
        have y2 := hf11.2.2.1
        have y3 := hf11.2.2.2
        go_simp
        exact hK.out _ _ ⟨x0, x1, x2, x3, x4, x5, x6, x7, x8, .agg #[.bool (frQ p).1.1, .slice A9 (frQ p).1.2.length c9, .bool (frQ p).2.1, .slice B9 (frQ p).2.2.length e9], x10, .pointer (some ⟨b11, 0, none⟩), .pointer (some ⟨b12, 0, none⟩), x13, x14, by simp only [Act.put, List.setIfInBounds_toArray, List.set_cons_zero, List.set_cons_succ], below_setF H.hb hg11 _ _ _ _, fun h => H.p0 (by rwa [Go.getD_set_ne false (by decide)] at h), fun h => H.p1 (by rwa [Go.getD_set_ne false (by decide)] at h), fun h => H.p2 (by rwa [Go.getD_set_ne false (by decide)] at h), fun h => H.p3 (by rwa [Go.getD_set_ne false (by decide)] at h), fun h => H.p4 (by rwa [Go.getD_set_ne false (by decide)] at h), fun h => H.p5 (by rwa [Go.getD_set_ne false (by decide)] at h), fun h => (H.p6 (by rwa [Go.getD_set_ne false (by decide)] at h)).st hk11 _ _ _ _, fun h => (H.p7 (by rwa [Go.getD_set_ne false (by decide)] at h)).st hk11 _ _ _ _, fun h => (H.p8 (by rwa [Go.getD_set_ne false (by decide)] at h)).st hk11 _ _ _ _, fun h => (H.p9 (by rwa [Go.getD_set_ne false (by decide)] at h)).st hk11 _ _ _ _, fun h => (H.p10 (by rwa [Go.getD_set_ne false (by decide)] at h)).st hk11 _ _ _ _, fun h => ⟨_, _, _, _, _, _, _, _, _, rfl, hg11, hk11.newF, hf11.putF _ _ _ _⟩, fun h => (H.p12 (by rwa [Go.getD_set_ne false (by decide)] at h)).st (H.ne11_12 d11 (by rwa [Go.getD_set_ne false (by decide)] at h)).symm _ _ _ _, fun _ => ⟨_, _, _, _, _, rfl, BxQ.put hk11 hf11 s9 t9⟩, fun h => (H.p14 (by rwa [Go.getD_set_ne false (by decide)] at h)).st hk11 (H.ne11_12 d11 d12).symm _ _ _ _, fun _ => by rw [Go.getD_set_ne false (by decide)]; exact d11, fun h => by rw [Go.getD_set_ne false (by decide)] at h ⊢; exact H.s14 h, fun h h' => H.ne11_12 (by rwa [Go.getD_set_ne false (by decide)] at h) (by rwa [Go.getD_set_ne false (by decide)] at h')⟩
      · skip
        have d9 := dep_of (d := 9) (by kernel_rfl) hi hd
        have d10 := dep_of (d := 10) (by kernel_rfl) hi hd
        have d11 := dep_of (d := 11) (by kernel_rfl) hi hd
        have d12 := dep_of (d := 12) (by kernel_rfl) hi hd
        have d13 := dep_of (d := 13) (by kernel_rfl) hi hd
        obtain ⟨A9, c9, B9, e9, rfl, s9, t9⟩ := H.p9 d9
        obtain ⟨A10, c10, B10, e10, rfl, s10, t10⟩ := H.p10 d10
        obtain ⟨b11, n111, A111, m111, c111, n211, A211, m211, c211, rfl, hg11, hk11, hf11⟩ := H.p11 d11
        obtain ⟨b12, n112, A112, m112, c112, n212, A212, m212, c212, rfl, hg12, hk12, hf12⟩ := H.p12 d12
        clear hd hlt2
        have ho := hi
        simp only [List.getElem?_toArray, List.getElem?_cons_succ, List.getElem?_cons_zero, Option.some.injEq] at ho
        subst ho
        refine wpOp_shut hi (fun K' hK => ?_)
        clear hi
        rw [if_pos (by rfl)]
        (try simp only [Act.put])
        have z0 := hk12.1
        have z1 := hk12.2.1
        have z2 := hk12.2.2.1
        have z3 := hk12.2.2.2
        have y0 := hf12.1
        have y1 := hf12.2.1
        have y2 := hf12.2.2.1
        have y3 := hf12.2.2.2
        go_simp
        exact hK.out _ _ ⟨x0, x1, x2, x3, x4, x5, x6, x7, x8, .agg #[.bool (frQ p).1.1, .slice A9 (frQ p).1.2.length c9, .bool (frQ p).2.1, .slice B9 (frQ p).2.2.length e9], .agg #[.bool (frQ q).1.1, .slice A10 (frQ q).1.2.length c10, .bool (frQ q).2.1, .slice B10 (frQ q).2.2.length e10], .pointer (some ⟨b11, 0, none⟩), .pointer (some ⟨b12, 0, none⟩), x13, x14, by simp only [Act.put, List.setIfInBounds_toArray, List.set_cons_zero, List.set_cons_succ], below_setF H.hb hg12 _ _ _ _, fun h => H.p0 (by rwa [Go.getD_set_ne false (by decide)] at h), fun h => H.p1 (by rwa [Go.getD_set_ne false (by decide)] at h), fun h => H.p2 (by rwa [Go.getD_set_ne false (by decide)] at h), fun h => H.p3 (by rwa [Go.getD_set_ne false (by decide)] at h), fun h => H.p4 (by rwa [Go.getD_set_ne false (by decide)] at h), fun h => H.p5 (by rwa [Go.getD_set_ne false (by decide)] at h), fun h => (H.p6 (by rwa [Go.getD_set_ne false (by decide)] at h)).st hk12 _ _ _ _, fun h => (H.p7 (by rwa [Go.getD_set_ne false (by decide)] at h)).st hk12 _ _ _ _, fun h => (H.p8 (by rwa [Go.getD_set_ne false (by decide)] at h)).st hk12 _ _ _ _, fun h => (H.p9 (by rwa [Go.getD_set_ne false (by decide)] at h)).st hk12 _ _ _ _, fun h => (H.p10 (by rwa [Go.getD_set_ne false (by decide)] at h)).st hk12 _ _ _ _, fun h => (H.p11 (by rwa [Go.getD_set_ne false (by decide)] at h)).st (H.ne11_12 (by rwa [Go.getD_set_ne false (by decide)] at h) d12) _ _ _ _, fun h => ⟨_, _, _, _, _, _, _, _, _, rfl, hg12, hk12.newF, hf12.putF _ _ _ _⟩, fun h => (H.p13 (by rwa [Go.getD_set_ne false (by decide)] at h)).st hk12 (H.ne11_12 d11 d12) _ _ _ _, fun _ => ⟨_, _, _, _, _, rfl, BxQ.put hk12 hf12 s10 t10⟩, fun h => by rw [Go.getD_set_ne false (by decide)] at h ⊢; exact H.s13 h, fun _ => by rw [Go.getD_set_ne false (by decide)]; exact d12, fun h h' => H.ne11_12 (by rwa [Go.getD_set_ne false (by decide)] at h) (by rwa [Go.getD_set_ne false (by decide)] at h')⟩
    case hend =>
      intro listed a' w' hI hall
      obtain ⟨x0, x1, x2, x3, x4, x5, x6, x7, x8, x9, x10, x11, x12, x13, x14, rfl, H⟩ := hI
      have h0 := H.p0 (hall 0 (by decide))
      have h1 := H.p1 (hall 1 (by decide))
      have h2 := H.p2 (hall 2 (by decide))
      have h3 := H.p3 (hall 3 (by decide))
      have h4 := H.p4 (hall 4 (by decide))
      have h5 := H.p5 (hall 5 (by decide))
      have h6 := H.p6 (hall 6 (by decide))
      have h7 := H.p7 (hall 7 (by decide))
      have h8 := H.p8 (hall 8 (by decide))
      have h9 := H.p9 (hall 9 (by decide))
      have h10 := H.p10 (hall 10 (by decide))
      have h11 := H.p11 (hall 11 (by decide))
      have h12 := H.p12 (hall 12 (by decide))
      have h13 := H.p13 (hall 13 (by decide))
      have h14 := H.p14 (hall 14 (by decide))
      have n11_12 := H.ne11_12 (hall 11 (by decide)) (hall 12 (by decide))
      have hb := H.hb
      clear H hall
      obtain ⟨g1, A1, c1, B1, d1, rfl, k1⟩ := h13
      obtain ⟨g2, A2, c2, B2, d2, rfl, k2⟩ := h14
      clear h0 h1 h2 h3 h4 h5 h6 h7 h8 h9 h10 h11 h12 n11_12
      simp only [Act.put, List.setIfInBounds_toArray, List.set_cons_zero, List.set_cons_succ]
      go_wp2_with fail
      go_meet
      exact ⟨g1, A1, c1, B1, d1, g2, A2, c2, B2, d2, rfl, rfl, k1, k2, hb⟩
  case rest =>
    obtain ⟨g1, A1, c1, B1, d1, g2, A2, c2, B2, d2, rfl, rfl, hk1, hk2, hb⟩ := hcut
    generalize wc = wx at *
    replace FO := Lib.hid (FO.out.keep KO.out hb)
    replace KO := Lib.hid (KO.out.keep hb)
    replace KC := Lib.hid (KC.out.keep hb)
    replace KX := Lib.hid (KX.out.keep hb)
    replace HB := Lib.hid (below_mono HB.out hb)
    replace HS := Lib.hid (HS.out.below hb)
    clear hb HCL
    have K1 := Lib.hid hk1
    have K2 := Lib.hid hk2
    clear hk1 hk2
    have hW : Hid (∀ V, Calls Try.prog 35 #[.int .i64 (l.getD 1 0)] V (FRes1 (frQ (cfQ l 1)) V)) := fun V => ewhole_q (l.getD 1 0) (HS.out.bdD 1).1 (HS.out.bdD 1).2 V
    obtain ⟨bb, oo, rfl, -, hc0⟩ := HS.out.atE (k := 1) h0
    generalize cfQ l 1 = c0 at *
    generalize l.getD 1 0 = y at *
    have C0 := Lib.hid hc0
    clear hc0
    go_upto_region 4 with fail
    have JS : Hid (∀ X, Below wx.heap.size wx X → X.cell? ⟨w.heap.size, 0, none⟩ = some (.slice (some ⟨bb, oo, none⟩) l.length cc) ∧ X.cell? ⟨w.heap.size + 1, 0, none⟩ = some (.bool (frQ x).1.1) ∧ X.cell? ⟨w.heap.size + 1, 1, none⟩ = some (.slice Ax (frQ x).1.2.length cx) ∧ X.cell? ⟨w.heap.size + 1, 2, none⟩ = some (.bool (frQ x).2.1) ∧ X.cell? ⟨w.heap.size + 1, 3, none⟩ = some (.slice Bx (frQ x).2.2.length dx) ∧ X.cell? ⟨bb, oo + 1, none⟩ = some (.int .i64 y) ∧ X.cell? ⟨g1, 0, none⟩ = some (.bool (frQ p).1.1) ∧ X.cell? ⟨g1, 1, none⟩ = some (.slice A1 (frQ p).1.2.length c1) ∧ X.cell? ⟨g1, 2, none⟩ = some (.bool (frQ p).2.1) ∧ X.cell? ⟨g1, 3, none⟩ = some (.slice B1 (frQ p).2.2.length d1) ∧ X.cell? ⟨g2, 0, none⟩ = some (.bool (frQ q).1.1) ∧ X.cell? ⟨g2, 1, none⟩ = some (.slice A2 (frQ q).1.2.length c2) ∧ X.cell? ⟨g2, 2, none⟩ = some (.bool (frQ q).2.1) ∧ X.cell? ⟨g2, 3, none⟩ = some (.slice B2 (frQ q).2.2.length d2)) := fun X h => ⟨(KC.out.keep h).at_ 0 rfl, (KX.out.keep h).k.1, (KX.out.keep h).k.2.1, (KX.out.keep h).k.2.2.1, (KX.out.keep h).k.2.2.2, kept_cell h C0.out, (K1.out.keep h).k.1, (K1.out.keep h).k.2.1, (K1.out.keep h).k.2.2.1, (K1.out.keep h).k.2.2.2, (K2.out.keep h).k.1, (K2.out.keep h).k.2.1, (K2.out.keep h).k.2.2.1, (K2.out.keep h).k.2.2.2⟩
    have Y0 : Hid (Below wx.heap.size wx wx.drew) := (Below.refl _ _).drew
    have hi1 : ¬ ((l.length : Int) ≤ 1) := by omega
    have F0 := Lib.hid (q_add FX.out FX.out (by omega)).2
    have F1 := Lib.hid (q_mul F0.out FP (by omega)).2
    have F2 := Lib.hid (q_add FC0 F1.out (by omega)).2
    refine wp_region_HT (S := fun w' => w'.cell? ⟨w.heap.size, 0, none⟩ = some (.slice (some ⟨bb, oo, none⟩) l.length cc) ∧ w'.cell? ⟨w.heap.size + 1, 0, none⟩ = some (.bool (frQ x).1.1) ∧ w'.cell? ⟨w.heap.size + 1, 1, none⟩ = some (.slice Ax (frQ x).1.2.length cx) ∧ w'.cell? ⟨w.heap.size + 1, 2, none⟩ = some (.bool (frQ x).2.1) ∧ w'.cell? ⟨w.heap.size + 1, 3, none⟩ = some (.slice Bx (frQ x).2.2.length dx) ∧ w'.cell? ⟨bb, oo + 1, none⟩ = some (.int .i64 y) ∧ w'.cell? ⟨g1, 0, none⟩ = some (.bool (frQ p).1.1) ∧ w'.cell? ⟨g1, 1, none⟩ = some (.slice A1 (frQ p).1.2.length c1) ∧ w'.cell? ⟨g1, 2, none⟩ = some (.bool (frQ p).2.1) ∧ w'.cell? ⟨g1, 3, none⟩ = some (.slice B1 (frQ p).2.2.length d1) ∧ w'.cell? ⟨g2, 0, none⟩ = some (.bool (frQ q).1.1) ∧ w'.cell? ⟨g2, 1, none⟩ = some (.slice A2 (frQ q).1.2.length c2) ∧ w'.cell? ⟨g2, 2, none⟩ = some (.bool (frQ q).2.1) ∧ w'.cell? ⟨g2, 3, none⟩ = some (.slice B2 (frQ q).2.2.length d2)) 12 (by kernel_rfl) (by kernel_rfl) (JS.out _ Y0.out) (fun hHeld => ?_)
    refine wpHT_take (i := 0) (v := .slice (some ⟨bb, oo, none⟩) l.length cc) rfl (by kernel_rfl) (by decide) (by kernel_rfl) (by kernel_rfl) (by kernel_rfl) (fun _ _ _ h => h) (Or.inl ⟨by rfl, by intro w hSw; (try dsimp only at hSw); go_simp⟩) hHeld ?_
    (try simp only [Act.put])
    refine wpHT_take (i := 1) (v := .pointer (some ⟨bb, oo + 1, none⟩)) rfl (by kernel_rfl) (by decide) (by kernel_rfl) (by kernel_rfl) (by kernel_rfl) (fun _ _ _ h => h) (Or.inl ⟨by rfl, by intro w hSw; (try dsimp only at hSw); go_simp⟩) hHeld ?_
    (try simp only [Act.put])
    refine wpHT_take (i := 2) (v := .int .i64 y) rfl (by kernel_rfl) (by decide) (by kernel_rfl) (by kernel_rfl) (by kernel_rfl) (fun _ _ _ h => h) (Or.inl ⟨by rfl, by intro w hSw; (try dsimp only at hSw); go_simp⟩) hHeld ?_
    (try simp only [Act.put])
    refine wpHT_take (i := 4) (v := .agg #[.bool (frQ x).1.1, .slice Ax (frQ x).1.2.length cx, .bool (frQ x).2.1, .slice Bx (frQ x).2.2.length dx]) rfl (by kernel_rfl) (by decide) (by kernel_rfl) (by kernel_rfl) (by kernel_rfl) (fun _ _ _ h => h) (Or.inl ⟨by rfl, by intro w hSw; (try dsimp only at hSw); go_simp⟩) hHeld ?_
    (try simp only [Act.put])
    refine wpHT_take (i := 5) (v := .agg #[.bool (frQ x).1.1, .slice Ax (frQ x).1.2.length cx, .bool (frQ x).2.1, .slice Bx (frQ x).2.2.length dx]) rfl (by kernel_rfl) (by decide) (by kernel_rfl) (by kernel_rfl) (by kernel_rfl) (fun _ _ _ h => h) (Or.inl ⟨by rfl, by intro w hSw; (try dsimp only at hSw); go_simp⟩) hHeld ?_
    (try simp only [Act.put])
    refine wpHT_take (i := 7) (v := .agg #[.bool (frQ p).1.1, .slice A1 (frQ p).1.2.length c1, .bool (frQ p).2.1, .slice B1 (frQ p).2.2.length d1]) rfl (by kernel_rfl) (by decide) (by kernel_rfl) (by kernel_rfl) (by kernel_rfl) (fun _ _ _ h => h) (Or.inl ⟨by rfl, by intro w hSw; (try dsimp only at hSw); go_simp⟩) hHeld ?_
    (try simp only [Act.put])
    refine wpHT_take (i := 10) (v := .agg #[.bool (frQ q).1.1, .slice A2 (frQ q).1.2.length c2, .bool (frQ q).2.1, .slice B2 (frQ q).2.2.length d2]) rfl (by kernel_rfl) (by decide) (by kernel_rfl) (by kernel_rfl) (by kernel_rfl) (fun _ _ _ h => h) (Or.inl ⟨by rfl, by intro w hSw; (try dsimp only at hSw); go_simp⟩) hHeld ?_
    (try simp only [Act.put])
    clear hHeld
    refine wpHT_ready (rs := [3]) (by kernel_rfl) (by simp) (HTready.cons rfl (by decide) (fun K hK => ?_) HTready.nil)
    go_simp
    (with_reducible refine (hW.out wx.drew).mono ?_)
    rintro e v1 ⟨A3, c3, B3, d3, rfl, hs3, ht3, hb⟩
    (try dsimp only at hs3)
    (try dsimp only at ht3)
    (try dsimp only)
    have Y1 := Lib.hid (below_mono Y0.out hb)
    have S3v1 := Lib.hid hs3
    have T3v1 := Lib.hid ht3
    clear hb hs3 ht3
    (try go_wp2_with fail)
    refine hK.out _ _ (JS.out _ Y1.out) (fun hHeld2 => ?_)
    clear hK K hHeld2
    (try simp only [Act.put])
    refine wpHT_ready (rs := [6]) (by kernel_rfl) (by simp) (HTready.cons rfl (by decide) (fun K hK => ?_) HTready.nil)
    go_simp
    (with_reducible refine (eadd_q FX.out FX.out (by omega) v1 Ax Bx Ax Bx cx dx cx dx (KX.out.keep Y1.out).s (KX.out.keep Y1.out).t (KX.out.keep Y1.out).s (KX.out.keep Y1.out).t).mono ?_)
    rintro e v2 ⟨A7, c7, B7, d7, rfl, hs7, ht7, hb⟩
    (try dsimp only at hs7)
    (try dsimp only at ht7)
    (try dsimp only)
    have Y2 := Lib.hid (below_mono Y1.out hb)
    have S3v2 := Lib.hid (S3v1.out.below hb)
    have T3v2 := Lib.hid (T3v1.out.below hb)
    have S7v2 := Lib.hid hs7
    have T7v2 := Lib.hid ht7
    clear hb hs7 ht7
    (try go_wp2_with fail)
    refine hK.out _ _ (JS.out _ Y2.out) (fun hHeld2 => ?_)
    clear hK K hHeld2
    (try simp only [Act.put])
    refine wpHT_ready (rs := [8]) (by kernel_rfl) (by simp) (HTready.cons rfl (by decide) (fun K hK => ?_) HTready.nil)
    go_simp
    (with_reducible refine (emul_q F0.out FP (by omega) v2 A7 B7 A1 B1 c7 d7 c1 d1 S7v2.out T7v2.out (K1.out.keep Y2.out).s (K1.out.keep Y2.out).t).mono ?_)
    rintro e v3 ⟨A4, c4, B4, d4, rfl, hs4, ht4, hb⟩
    (try dsimp only at hs4)
    (try dsimp only at ht4)
    (try dsimp only)
    have Y3 := Lib.hid (below_mono Y2.out hb)
    have S3v3 := Lib.hid (S3v2.out.below hb)
    have T3v3 := Lib.hid (T3v2.out.below hb)
    have S4v3 := Lib.hid hs4
    have T4v3 := Lib.hid ht4
    clear hb hs4 ht4
    (try go_wp2_with fail)
    refine hK.out _ _ (JS.out _ Y3.out) (fun hHeld2 => ?_)
    clear hK K hHeld2
    (try simp only [Act.put])
    refine wpHT_ready (rs := [9]) (by kernel_rfl) (by simp) (HTready.cons rfl (by decide) (fun K hK => ?_) HTready.nil)
    go_simp
    (with_reducible refine (eadd_q FC0 F1.out (by omega) v3 A3 B3 A4 B4 c3 d3 c4 d4 S3v3.out T3v3.out S4v3.out T4v3.out).mono ?_)
    rintro e v4 ⟨A5, c5, B5, d5, rfl, hs5, ht5, hb⟩
    (try dsimp only at hs5)
    (try dsimp only at ht5)
    (try dsimp only)
    have Y4 := Lib.hid (below_mono Y3.out hb)
    have S5v4 := Lib.hid hs5
    have T5v4 := Lib.hid ht5
    clear hb hs5 ht5
    (try go_wp2_with fail)
    refine hK.out _ _ (JS.out _ Y4.out) (fun hHeld2 => ?_)
    clear hK K hHeld2
    (try simp only [Act.put])
    refine wpHT_ready (rs := [11]) (by kernel_rfl) (by simp) (HTready.cons rfl (by decide) (fun K hK => ?_) HTready.nil)
    go_simp
    (with_reducible refine (esub_q F2.out FQ (by omega) v4 A5 B5 A2 B2 c5 d5 c2 d2 S5v4.out T5v4.out (K2.out.keep Y4.out).s (K2.out.keep Y4.out).t).mono ?_)
    rintro e v5 ⟨A6, c6, B6, d6, rfl, hs6, ht6, hb⟩
    (try dsimp only at hs6)
    (try dsimp only at ht6)
    (try dsimp only)
    have Y5 := Lib.hid (below_mono Y4.out hb)
    have S6v5 := Lib.hid hs6
    have T6v5 := Lib.hid ht6
    clear hb hs6 ht6
    (try go_wp2_with fail)
    refine hK.out _ _ (JS.out _ Y5.out) (fun hHeld2 => ?_)
    clear hK K hHeld2
    (try simp only [Act.put])
    refine ⟨by kernel_rfl, ?_⟩
    have KO4 := Lib.hid (KO.out.keep Y5.out)
    have FO4 := Lib.hid (FO.out.keep KO.out Y5.out)
    have qo0 := KO4.out.1
    have qo1 := KO4.out.2.1
    have qo2 := KO4.out.2.2.1
    have qo3 := KO4.out.2.2.2
    have fo0 := FO4.out.1
    have fo1 := FO4.out.2.1
    have fo2 := FO4.out.2.2.1
    have fo3 := FO4.out.2.2.2
    simp only [List.drop_succ_cons, List.drop_zero]
    go_wp2
    exact bodyPost_ret (v := .agg #[.bool (frQ (c0 + (x + x) * p - q)).1.1, .slice A6 (frQ (c0 + (x + x) * p - q)).1.2.length c6, .bool (frQ (c0 + (x + x) * p - q)).2.1, .slice B6 (frQ (c0 + (x + x) * p - q)).2.2.length d6]) (by simp [results, Try.results22, go_sem, qo0, qo1, qo2, qo3]) rfl (fres1_store S6v5.out T6v5.out KO4.out (below_mono HB.out Y5.out) (by omega) _ _ _ _)

set_option maxRecDepth 100000 in
set_option maxHeartbeats 8000000 in
theorem slope_one (l : List Int) (A : Option Addr) (cc : Nat) (x : Rat) (Ax Bx : Option Addr) (cx dx : Nat) (w : World) (h1 : l.length < 2) (sx : Sl w Ax (frQ x).1.2 cx) (tx : Sl w Bx (frQ x).2.2 dx) :
    Calls Try.prog 22 #[.slice A l.length cc, .agg #[.bool (frQ x).1.1, .slice Ax (frQ x).1.2.length cx, .bool (frQ x).2.1, .slice Bx (frQ x).2.2.length dx]] w (FRes1 (frQ 0) w) := by
  have hW : Hid (∀ V, Calls Try.prog 35 #[.int .i64 0] V (FRes1 (frQ 0) V)) := fun V => by have h := ewhole_q 0 (by omega) (by omega) V; rwa [Rat.intCast_zero] at h
  have Sx := Lib.hid sx
  have Tx := Lib.hid tx
  clear sx tx
  go_enter Try.func22, Try.ntmps22
  go_upto_region 1 with (fail)
  generalize hwz : ((w.alloc (.cells #[.slice A l.length cc] 28)).alloc (.cells #[.bool (frQ x).1.1, .slice Ax (frQ x).1.2.length cx, .bool (frQ x).2.1, .slice Bx (frQ x).2.2.length dx] 59)).alloc (.cells #[.bool false, .slice none 0 0, .bool false, .slice none 0 0] 59) = wz at *
  have KC : Hid (BlkV wz w.heap.size 28 #[.slice A l.length cc]) := by rw [← hwz]; exact ((BlkV.fresh rfl _ _).alloc _).alloc _
  have KO : Hid (Cf wz (w.heap.size + 2) false none 0 0 false none 0 0) := by rw [← hwz]; exact Cf.fresh (by simp) _ _ _ _ _ _ _ _ _
  have FO : Hid (Ff wz (w.heap.size + 2)) := by rw [← hwz]; exact Ff.fresh (by simp) _ _
  have HB : Hid (Below w.heap.size w wz) := by rw [← hwz]; exact below_mono (below_mono (blw1 _ _) (blw1 _ _)) (blw1 _ _)
  clear hwz Sx Tx
  have t2 : decide ((l.length : Int) < 2) = true := decide_eq_true (by omega)
  have qc0 : wz.cell? ⟨w.heap.size, 0, none⟩ = some (.slice A l.length cc) := KC.out.at_ 0 rfl
  go_wp2_with fail
  refine (hW.out _).mono ?_
  rintro e w1 ⟨A6, c6, B6, d6, rfl, hs6, ht6, hb⟩
  (try dsimp only at hs6)
  (try dsimp only at ht6)
  (try dsimp only)
  have S6 := Lib.hid hs6
  have T6 := Lib.hid ht6
  have KO4 := Lib.hid (KO.out.keep hb)
  have FO4 := Lib.hid (FO.out.keep KO.out hb)
  have HB4 := Lib.hid (below_mono HB.out hb)
  clear hb hs6 ht6 qc0
  have qo0 := KO4.out.1
  have qo1 := KO4.out.2.1
  have qo2 := KO4.out.2.2.1
  have qo3 := KO4.out.2.2.2
  have fo0 := FO4.out.1
  have fo1 := FO4.out.2.1
  have fo2 := FO4.out.2.2.1
  have fo3 := FO4.out.2.2.2
  go_wp2
  exact bodyPost_ret (v := .agg #[.bool (frQ 0).1.1, .slice A6 (frQ 0).1.2.length c6, .bool (frQ 0).2.1, .slice B6 (frQ 0).2.2.length d6]) (by simp [results, Try.results22, go_sem, qo0, qo1, qo2, qo3]) rfl (fres1_store S6.out T6.out KO4.out HB4.out (by omega) _ _ _ _)

theorem slope_any (l : List Int) (A : Option Addr) (cc : Nat) (x : Rat) (Ax Bx : Option Addr) (cx dx B : Nat) (w : World) (hl : SlI w B A l cc) (h0 : 0 < l.length) (h6 : l.length ≤ 6) (h50 : ∀ z ∈ l, -1125899906842624 ≤ z ∧ z ≤ 1125899906842624) (hx : Few 2 x) (sx : Sl w Ax (frQ x).1.2 cx) (tx : Sl w Bx (frQ x).2.2 dx) :
    Calls Try.prog 22 #[.slice A l.length cc, .agg #[.bool (frQ x).1.1, .slice Ax (frQ x).1.2.length cx, .bool (frQ x).2.1, .slice Bx (frQ x).2.2.length dx]] w (FRes1 (frQ (chS (cfQ l) (chD x) l.length)) w) := by
  by_cases h1 : 1 < l.length
  · exact slope_q l A cc x Ax Bx cx dx B w hl h1 h6 h50 hx sx tx
  · have e : chS (cfQ l) (chD x) l.length = 0 := by
      rw [show l.length = 1 by omega]
      simp only [chS, chD]
      grind
    rw [e]
    exact slope_one l A cc x Ax Bx cx dx w (by omega) sx tx

end Go.Proofs.Ytghallnooijfhaa

import Derived.Test.YtghallnooijfhaaMg12
import Derived.Test.YtghallnooijfhaaEph5
import Derived.Deep.RegionHeld
namespace Go.Proofs.Ytghallnooijfhaa
open Go.RowKit
attribute [local go_sem ↓] Go.wp_at_zero Go.wp_at_succ
/-- A coordinate of a speed. -/
theorem scoord_q (l : List Int) (A : Option Addr) (cc B : Nat) (x : Rat) (Ax Bx : Option Addr) (cx dx : Nat) (w : World) (hl : SlI w B A l cc) (h0 : listB l = true) (h6 : l.length ≤ 6) (hx : Few 2 x) (sx : Sl w Ax (frQ x).1.2 cx) (tx : Sl w Bx (frQ x).2.2 dx) :
    Calls Try.prog 22 #[.slice A l.length cc, .agg #[.bool (frQ x).1.1, .slice Ax (frQ x).1.2.length cx, .bool (frQ x).2.1, .slice Bx (frQ x).2.2.length dx]] w (fun e w' => ∃ A1 c1 B1 d1, e = .returned (.agg #[.bool (frQ (spQ l x)).1.1, .slice A1 (frQ (spQ l x)).1.2.length c1, .bool (frQ (spQ l x)).2.1, .slice B1 (frQ (spQ l x)).2.2.length d1]) ∧ Sl w' A1 (frQ (spQ l x)).1.2 c1 ∧ Sl w' B1 (frQ (spQ l x)).2.2 d1 ∧ Below w.heap.size w w') := by
  have h := slope_any l A cc x Ax Bx cx dx B w hl (list_pos h0) h6 (fun z hz => by
    unfold listB at h0
    simp only [Bool.and_eq_true, List.all_eq_true] at h0
    have := h0.2 z hz
    unfold outB at this
    simp only [Bool.not_eq_true', Bool.or_eq_false_iff, decide_eq_false_iff_not] at this
    omega) hx sx tx
  exact h.mono fun e w' ⟨A1, c1, B1, d1, e1, s1, t1, b1⟩ => ⟨A1, c1, B1, d1, e1, s1, t1, b1⟩

theorem few_sp {l : List Int} {A : Option Addr} {cc B : Nat} {w : World} {x : Rat} (hl : SlI w B A l cc) (h6 : l.length ≤ 6) (hx : Few 2 x) : Few 700 (spQ l x) :=
  (few_v (fun k => few_two (hl.bdD k).1 (hl.bdD k).2) hx (j := l.length) h6).e

theorem few_by {s : SG} (h : s.F < s.T) (b1 : -5000000000000000 ≤ s.F) (b2 : s.T ≤ 5000000000000000) : Few 2 (byQ s) := by
  unfold byQ
  exact few_div (by omega) (by omega) (by omega)

theorem unS_err (v : Rat) : (unS v).2.2 = 0 ∨ unS v = (0, 0, 16) := by unfold unS; split <;> simp

theorem err16 {q : Rat} {a b e : Int} (h : unS q = (a, b, e)) (he : e ≠ 0) : e = 16 := by
  rcases unS_err q with h2 | h2
  · rw [h] at h2; exact absurd h2 he
  · rw [h2] at h; simp at h; exact h.2.2.symm

theorem spR_ok {s : SG} {t : Int} {v : V6} (h0 : unS (spQ s.l0 (xQ s t) * byQ s) = (v.l0, v.h0, 0)) (h1 : unS (spQ s.l1 (xQ s t) * byQ s) = (v.l1, v.h1, 0)) (h2 : unS (spQ s.l2 (xQ s t) * byQ s) = (v.l2, v.h2, 0)) : spR s t = (v, 0) := by
  unfold spR allV; rw [h0, h1, h2, if_pos ⟨rfl, rfl, rfl⟩]

theorem spR_bad {s : SG} {t : Int} (h : (unS (spQ s.l0 (xQ s t) * byQ s)).2.2 ≠ 0 ∨ (unS (spQ s.l1 (xQ s t) * byQ s)).2.2 ≠ 0 ∨ (unS (spQ s.l2 (xQ s t) * byQ s)).2.2 ≠ 0) : spR s t = (zV6, 16) := by
  unfold spR allV; rw [if_neg (by rintro ⟨a, b, c⟩; rcases h with h | h | h <;> exact h (by assumption))]

set_option maxRecDepth 100000 in
set_option maxHeartbeats 8000000 in
theorem eSpeed_any (bs : List BG) (A : Option Addr) (c B : Nat) (i t : Int) (w : World) (hs : SlB w B A bs c) (hg : grE bs = false) :
    Calls Try.prog 10 #[.agg #[.slice A bs.length c], .int .i64 i, .int .i64 t] w fun e w' => e = .returned (.tuple #[.agg #[.int .i64 (spE bs i t).1.l0, .int .i64 (spE bs i t).1.h0, .int .i64 (spE bs i t).1.l1, .int .i64 (spE bs i t).1.h1, .int .i64 (spE bs i t).1.l2, .int .i64 (spE bs i t).1.h2], .int .i64 (spE bs i t).2]) ∧ Below w.heap.size w w' := by
  have S := Lib.hid hs
  have OK := Lib.hid (find_ok (i := i) (t := t) hg)
  have CF := Lib.hid (fun V (hV : Below w.heap.size w V) => efind_any bs A c B i t V (S.out.below hV))
  have OS : Hid (∀ b ∈ bs, (findS bs i t).1 ∈ b.ss → ∀ V, Below w.heap.size w V → OkS V B (findS bs i t).1) := fun b hb hm V hV => ((S.out.below hV).all b hb).sl.all _ hm
  unfold spE
  rw [lk_find]
  clear hs S
  generalize findS bs i t = r at *
  obtain ⟨s, x⟩ := r
  dsimp only at *
  by_cases hx : x = 0
  · subst hx
    obtain ⟨o1, o2, o3, b, ob, om⟩ := OK.out rfl
    replace OS := Lib.hid (OS.out b ob om)
    clear OK
    rw [if_pos rfl]
    obtain ⟨p1, p2, p3, p4, p5, q0, q1, q2⟩ := seg_parts o1
    have FX := Lib.hid (few_x p1 o2 o3 p2 p5)
    have FY := Lib.hid (few_by p1 p2 p5)
    have n0 := o1.n0
    have n1 := o1.n1
    have n2 := o1.n2
    have HOF : Hid (∀ V, Calls Try.prog 19 #[.int .i64 (2 * t - s.F - s.T), .int .i64 (s.T - s.F)] V (FRes (frQ (xQ s t), 0) V)) := fun V => by
      have h := of_any (2 * t - s.F - s.T) (s.T - s.F) (by omega) (by omega) (by omega) (by omega) V
      rwa [of_q (by omega)] at h
    have HOY : Hid (∀ V, Calls Try.prog 19 #[.int .i64 172800000000, .int .i64 (s.T - s.F)] V (FRes (frQ (byQ s), 0) V)) := fun V => by
      have h := of_any 172800000000 (s.T - s.F) (by omega) (by omega) (by omega) (by omega) V
      rwa [of_q (by omega)] at h
    have Q0 := Lib.hid q0
    have Q1 := Lib.hid q1
    have Q2 := Lib.hid q2
    clear q0 q1 q2
    have r0 : -9223372036854775808 ≤ 2 * t ∧ 2 * t ≤ 9223372036854775807 := by omega
    have r1 : -9223372036854775808 ≤ 2 * t - s.F ∧ 2 * t - s.F ≤ 9223372036854775807 := by omega
    have r2 : -9223372036854775808 ≤ 2 * t - s.F - s.T ∧ 2 * t - s.F - s.T ≤ 9223372036854775807 := by omega
    have r3 : -9223372036854775808 ≤ s.T - s.F ∧ s.T - s.F ≤ 9223372036854775807 := by omega
    have EB := Lib.hid (spR_bad (s := s) (t := t))
    obtain ⟨v, e0, e1, e2, V0, V1, V2⟩ : ∃ (v : V6) (e0 e1 e2 : Int), unS (spQ s.l0 (xQ s t) * byQ s) = (v.l0, v.h0, e0) ∧ unS (spQ s.l1 (xQ s t) * byQ s) = (v.l1, v.h1, e1) ∧ unS (spQ s.l2 (xQ s t) * byQ s) = (v.l2, v.h2, e2) := ⟨⟨_, _, _, _, _, _⟩, _, _, _, rfl, rfl, rfl⟩
    have EG : Hid (e0 = 0 → e1 = 0 → e2 = 0 → spR s t = (v, 0)) := fun a b c => spR_ok (by rw [V0, a]) (by rw [V1, b]) (by rw [V2, c])
    rw [V0, V1, V2] at EB
    dsimp only at EB
    skip
    replace V0 := Lib.hid V0
    replace V1 := Lib.hid V1
    replace V2 := Lib.hid V2
    obtain ⟨R, hR⟩ : ∃ R, R = spR s t := ⟨_, rfl⟩
    rw [← hR] at EG EB ⊢
    clear hR
    generalize xQ s t = x at *
    generalize byQ s = y at *
    go_enter Try.func10, Try.ntmps10
    go_wp2_with (fail)
    generalize hwz : (w.alloc (.cells #[.slice A bs.length c] 24)).alloc (.cells #[.int .i64 0, .int .i64 0, .int .i64 0, .int .i64 0, .int .i64 0, .int .i64 0] 38) = wz at *
    have KV : Hid (BlkV wz (w.heap.size + 1) 38 #[.int .i64 0, .int .i64 0, .int .i64 0, .int .i64 0, .int .i64 0, .int .i64 0]) := by rw [← hwz]; exact BlkV.fresh (by simp) _ _
    have HB : Hid (Below w.heap.size w wz) := by rw [← hwz]; exact below_mono (blw1 _ _) (blw1 _ _)
    clear hwz
    refine (CF.out wz HB.out).mono ?_
    rintro e w1 ⟨rfl, hb⟩
    replace KV := Lib.hid (KV.out.keep hb)
    replace HB := Lib.hid (below_mono HB.out hb)
    clear hb CF
    go_upto_region 2 with fail
    generalize hwx : w1.alloc (.cells #[.int .i64 s.F, .int .i64 s.T, .slice s.A0 s.l0.length s.c0, .slice s.A1 s.l1.length s.c1, .slice s.A2 s.l2.length s.c2] 31) = wx at *
    replace KV : Hid (BlkV wx (w.heap.size + 1) 38 #[.int .i64 0, .int .i64 0, .int .i64 0, .int .i64 0, .int .i64 0, .int .i64 0]) := by rw [← hwx]; exact KV.out.alloc _
    replace HB : Hid (Below w.heap.size w wx) := by rw [← hwx]; exact below_mono HB.out (blw1 _ _)
    have KS : Hid (BlkV wx w1.heap.size 31 #[.int .i64 s.F, .int .i64 s.T, .slice s.A0 s.l0.length s.c0, .slice s.A1 s.l1.length s.c1, .slice s.A2 s.l2.length s.c2]) := by rw [← hwx]; exact BlkV.fresh rfl _ _
    clear hwx
    generalize w1.heap.size = gs at *
    have k0 := KS.out.at_ 0 rfl
    have k1 := KS.out.at_ 1 rfl
    have k2 := KS.out.at_ 2 rfl
    have k3 := KS.out.at_ 3 rfl
    have k4 := KS.out.at_ 4 rfl
    go_wp2_with fail
    refine (HOF.out _).mono ?_
    rintro e w2 ⟨Ax, cx, Bx, dx, rfl, hs1, ht1, hb⟩
    (try dsimp only at hs1 ht1)
    (try dsimp only)
    replace KV := Lib.hid (KV.out.keep hb)
    replace KS := Lib.hid (KS.out.keep hb)
    replace HB := Lib.hid (below_mono HB.out hb)
    clear hb k0 k1 k2 k3 k4 HOF r0 r1 r2
    go_upto_region 5 with fail
    generalize hwx : w2.alloc (.cells #[.bool (frQ x).1.1, .slice Ax (frQ x).1.2.length cx, .bool (frQ x).2.1, .slice Bx (frQ x).2.2.length dx] 59) = wx2 at *
    replace KV : Hid (BlkV wx2 (w.heap.size + 1) 38 #[.int .i64 0, .int .i64 0, .int .i64 0, .int .i64 0, .int .i64 0, .int .i64 0]) := by rw [← hwx]; exact KV.out.alloc _
    replace HB : Hid (Below w.heap.size w wx2) := by rw [← hwx]; exact below_mono HB.out (blw1 _ _)
    replace KS : Hid (BlkV wx2 gs 31 #[.int .i64 s.F, .int .i64 s.T, .slice s.A0 s.l0.length s.c0, .slice s.A1 s.l1.length s.c1, .slice s.A2 s.l2.length s.c2]) := by rw [← hwx]; exact KS.out.alloc _
    have KX : Hid (BxQ wx2 w2.heap.size x Ax cx Bx dx) := by rw [← hwx]; exact BxQ.fresh rfl hs1 ht1
    clear hwx hs1 ht1
    generalize w2.heap.size = gx at *
    have k0 := KS.out.at_ 0 rfl
    have k1 := KS.out.at_ 1 rfl
    have k2 := KS.out.at_ 2 rfl
    have k3 := KS.out.at_ 3 rfl
    have k4 := KS.out.at_ 4 rfl
    go_wp2_with fail
    refine (HOY.out _).mono ?_
    rintro e w3 ⟨Ay, cy, By, dy, rfl, hs1, ht1, hb⟩
    (try dsimp only at hs1 ht1)
    (try dsimp only)
    replace KV := Lib.hid (KV.out.keep hb)
    replace KS := Lib.hid (KS.out.keep hb)
    replace KX := Lib.hid (KX.out.keep hb)
    replace HB := Lib.hid (below_mono HB.out hb)
    clear hb k0 k1 k2 k3 k4 HOY r3
    have hgx : gx < w3.heap.size := KX.out.lt
    have hgv : w.heap.size + 1 < w3.heap.size := KV.out.lt
    go_upto_region 7 with fail
    generalize hwx : (w3.alloc (.cells #[.bool (frQ y).1.1, .slice Ay (frQ y).1.2.length cy, .bool (frQ y).2.1, .slice By (frQ y).2.2.length dy] 59)).alloc (.cells #[.int .i64 0, .int .i64 0, .int .i64 0, .int .i64 0, .int .i64 0, .int .i64 0] 38) = wx3 at *
    replace KV : Hid (BlkV wx3 (w.heap.size + 1) 38 #[.int .i64 0, .int .i64 0, .int .i64 0, .int .i64 0, .int .i64 0, .int .i64 0]) := by rw [← hwx]; exact (KV.out.alloc _).alloc _
    replace HB : Hid (Below w.heap.size w wx3) := by rw [← hwx]; exact below_mono (below_mono HB.out (blw1 _ _)) (blw1 _ _)
    replace KS : Hid (BlkV wx3 gs 31 #[.int .i64 s.F, .int .i64 s.T, .slice s.A0 s.l0.length s.c0, .slice s.A1 s.l1.length s.c1, .slice s.A2 s.l2.length s.c2]) := by rw [← hwx]; exact (KS.out.alloc _).alloc _
    have KY : Hid (BxQ wx3 w3.heap.size y Ay cy By dy) := by rw [← hwx]; exact (BxQ.fresh rfl hs1 ht1).alloc _
    have KW : Hid (BlkV wx3 (w3.heap.size + 1) 38 (stV v 0)) := by rw [← hwx]; exact BlkV.fresh (by simp) _ _
    replace KX : Hid (BxQ wx3 gx x Ax cx Bx dx) := by rw [← hwx]; exact (KX.out.alloc _).alloc _
    clear hwx hs1 ht1
    generalize w3.heap.size = gy at *
    have k2 := KS.out.at_ 2 rfl
    have k3 := KS.out.at_ 3 rfl
    have k4 := KS.out.at_ 4 rfl
    go_wp2
    go_loopw [56] (fun s56 wr => ∃ k : Nat, k ≤ 3 ∧ s56 = .int .i64 k ∧ (0 < k → e0 = 0) ∧ (1 < k → e1 = 0) ∧ (2 < k → e2 = 0) ∧ BlkV wr (gy + 1) 38 (stV v k) ∧ BlkV wr (w.heap.size + 1) 38 #[.int .i64 0, .int .i64 0, .int .i64 0, .int .i64 0, .int .i64 0, .int .i64 0] ∧ BxQ wr gx x Ax cx Bx dx ∧ BxQ wr gy y Ay cy By dy ∧ Below w.heap.size w wr) (fun v _ => 3 - (intOf v).toNat)
    case atStart => exact ⟨0, by omega, rfl, by omega, by omega, by omega, KW.out, KV.out, KX.out, KY.out, HB.out⟩
    case round =>
      clear KV KX KY KW HB k2 k3 k4 KS
      obtain ⟨k, hk, rfl, he0, he1, he2, hkw, hkv, hkx, hky, hbb⟩ := hrel
      have KW := Lib.hid hkw
      have KV := Lib.hid hkv
      have KX := Lib.hid hkx
      have KY := Lib.hid hky
      have HB := Lib.hid hbb
      clear hkw hkv hkx hky hbb
      generalize wr = wz at *
      have hi0 : ∀ W, (Instr.index 29 (.agg #[.slice s.A0 s.l0.length s.c0, .slice s.A1 s.l1.length s.c1, .slice s.A2 s.l2.length s.c2]) (.int .i64 0)).run Try.prog W = .ok (.slice s.A0 s.l0.length s.c0) W := fun W => by rfl
      have hi1 : ∀ W, (Instr.index 29 (.agg #[.slice s.A0 s.l0.length s.c0, .slice s.A1 s.l1.length s.c1, .slice s.A2 s.l2.length s.c2]) (.int .i64 1)).run Try.prog W = .ok (.slice s.A1 s.l1.length s.c1) W := fun W => by rfl
      have hi2 : ∀ W, (Instr.index 29 (.agg #[.slice s.A0 s.l0.length s.c0, .slice s.A1 s.l1.length s.c1, .slice s.A2 s.l2.length s.c2]) (.int .i64 2)).run Try.prog W = .ok (.slice s.A2 s.l2.length s.c2) W := fun W => by rfl
      obtain rfl | rfl | rfl | rfl : k = 0 ∨ k = 1 ∨ k = 2 ∨ k = 3 := by omega
      · skip
        go_upto_region 10 with fail
        have JS : Hid (∀ X, Below wz.heap.size wz X → X.cell? ⟨gx, 0, none⟩ = some (.bool (frQ x).1.1) ∧ X.cell? ⟨gx, 1, none⟩ = some (.slice Ax (frQ x).1.2.length cx) ∧ X.cell? ⟨gx, 2, none⟩ = some (.bool (frQ x).2.1) ∧ X.cell? ⟨gx, 3, none⟩ = some (.slice Bx (frQ x).2.2.length dx) ∧ X.cell? ⟨gy, 0, none⟩ = some (.bool (frQ y).1.1) ∧ X.cell? ⟨gy, 1, none⟩ = some (.slice Ay (frQ y).1.2.length cy) ∧ X.cell? ⟨gy, 2, none⟩ = some (.bool (frQ y).2.1) ∧ X.cell? ⟨gy, 3, none⟩ = some (.slice By (frQ y).2.2.length dy)) := fun X h => ⟨(KX.out.keep h).k.1, (KX.out.keep h).k.2.1, (KX.out.keep h).k.2.2.1, (KX.out.keep h).k.2.2.2, (KY.out.keep h).k.1, (KY.out.keep h).k.2.1, (KY.out.keep h).k.2.2.1, (KY.out.keep h).k.2.2.2⟩
        have Y0 : Hid (Below wz.heap.size wz wz.drew) := (Below.refl _ _).drew
        have FS := Lib.hid (few_sp (OS.out wz HB.out).i0 n0 FX.out)
        have FM := Lib.hid (q_mul FS.out FY.out (by omega)).2
        refine wp_region_held_drew (S := fun w' => w'.cell? ⟨gx, 0, none⟩ = some (.bool (frQ x).1.1) ∧ w'.cell? ⟨gx, 1, none⟩ = some (.slice Ax (frQ x).1.2.length cx) ∧ w'.cell? ⟨gx, 2, none⟩ = some (.bool (frQ x).2.1) ∧ w'.cell? ⟨gx, 3, none⟩ = some (.slice Bx (frQ x).2.2.length dx) ∧ w'.cell? ⟨gy, 0, none⟩ = some (.bool (frQ y).1.1) ∧ w'.cell? ⟨gy, 1, none⟩ = some (.slice Ay (frQ y).1.2.length cy) ∧ w'.cell? ⟨gy, 2, none⟩ = some (.bool (frQ y).2.1) ∧ w'.cell? ⟨gy, 3, none⟩ = some (.slice By (frQ y).2.2.length dy)) (by kernel_rfl) (JS.out _ Y0.out) (fun hHeld => ?_)
        refine wpAnyH_take (i := 0) (v := .int .i64 0) rfl (by kernel_rfl) (by kernel_rfl) (by kernel_rfl) (fun _ _ _ h => h) (Or.inl ⟨by rfl, by intro w hSw; (try dsimp only at hSw); go_simp⟩) (by assumption) ?_
        (try simp only [Act.put])
        refine wpAnyH_take (i := 1) (v := .slice s.A0 s.l0.length s.c0) rfl (by kernel_rfl) (by kernel_rfl) (by kernel_rfl) (fun _ _ _ h => h) (Or.inl ⟨by rfl, by intro w hSw; (try dsimp only at hSw); go_simp⟩) (by assumption) ?_
        (try simp only [Act.put])
        refine wpAnyH_take (i := 2) (v := .agg #[.bool (frQ x).1.1, .slice Ax (frQ x).1.2.length cx, .bool (frQ x).2.1, .slice Bx (frQ x).2.2.length dx]) rfl (by kernel_rfl) (by kernel_rfl) (by kernel_rfl) (fun _ _ _ h => h) (Or.inl ⟨by rfl, by intro w hSw; (try dsimp only at hSw); go_simp⟩) (by assumption) ?_
        (try simp only [Act.put])
        refine wpAnyH_take (i := 4) (v := .agg #[.bool (frQ y).1.1, .slice Ay (frQ y).1.2.length cy, .bool (frQ y).2.1, .slice By (frQ y).2.2.length dy]) rfl (by kernel_rfl) (by kernel_rfl) (by kernel_rfl) (fun _ _ _ h => h) (Or.inl ⟨by rfl, by intro w hSw; (try dsimp only at hSw); go_simp⟩) (by assumption) ?_
        (try simp only [Act.put])
        refine wpAnyH_ready (rs := [3]) (by kernel_rfl) (by simp) ?_
        refine AllReadyH.cons rfl (fun K hK => ?_) AllReadyH.nil
        go_simp
        (with_reducible refine (scoord_q s.l0 s.A0 s.c0 B x Ax Bx cx dx wz.drew (OS.out _ (below_mono HB.out Y0.out)).i0 Q0.out n0 FX.out (KX.out.keep Y0.out).s (KX.out.keep Y0.out).t).mono ?_)
        rintro e v1 ⟨A1, c1, B1, d1, rfl, hs1, ht1, hb⟩
        (try dsimp only)
        (try dsimp only at hs1 ht1)
        have Y1 := Lib.hid (below_mono Y0.out hb)
        have S1 := Lib.hid hs1
        have T1 := Lib.hid ht1
        clear hb hs1 ht1
        (try go_wp2_with fail)
        refine hK.out _ _ (JS.out _ Y1.out) (fun hHeld2 => ?_)
        clear hK K hHeld
        have hHeld := hHeld2
        clear hHeld2
        (try simp only [Act.put])
        refine wpAnyH_ready (rs := [5]) (by kernel_rfl) (by simp) ?_
        refine AllReadyH.cons rfl (fun K hK => ?_) AllReadyH.nil
        go_simp
        (with_reducible refine (emul_q FS.out FY.out (by omega) v1 A1 B1 Ay By c1 d1 cy dy S1.out T1.out (KY.out.keep Y1.out).s (KY.out.keep Y1.out).t).mono ?_)
        rintro e v2 ⟨A2, c2, B2, d2, rfl, hs1, ht1, hb⟩
        (try dsimp only)
        (try dsimp only at hs1 ht1)
        have Y2 := Lib.hid (below_mono Y1.out hb)
        have S2 := Lib.hid hs1
        have T2 := Lib.hid ht1
        clear hb hs1 ht1
        (try go_wp2_with fail)
        refine hK.out _ _ (JS.out _ Y2.out) (fun hHeld2 => ?_)
        clear hK K hHeld
        have hHeld := hHeld2
        clear hHeld2
        (try simp only [Act.put])
        refine wpAnyH_ready (rs := [6]) (by kernel_rfl) (by simp) ?_
        refine AllReadyH.cons rfl (fun K hK => ?_) AllReadyH.nil
        go_simp
        (with_reducible refine (units_q (spQ s.l0 x * y) 702 FM.out (by omega) A2 B2 c2 d2 v2 S2.out T2.out).mono ?_)
        rintro e v3 ⟨rfl, hb⟩
        (try dsimp only)
        rw [unS_eq, V0.out]
        (try dsimp only)
        have Y3 := Lib.hid (below_mono Y2.out hb)
        clear hb
        (try go_wp2_with fail)
        refine hK.out _ _ (JS.out _ Y3.out) (fun hHeld2 => ?_)
        clear hK K hHeld
        have hHeld := hHeld2
        clear hHeld2
        (try simp only [Act.put])
        refine wpAnyH_take (i := 7) (v := .tuple #[.agg #[.int .i64 v.l0, .int .i64 v.h0], .int .i64 e0]) rfl (by kernel_rfl) (by kernel_rfl) (by kernel_rfl) (fun _ _ _ h => h) (Or.inl ⟨by rfl, by intro w hSw; (try dsimp only at hSw); go_simp⟩) (by assumption) ?_
        (try simp only [Act.put])
        refine wpAnyH_take (i := 8) (v := .agg #[.int .i64 v.l0, .int .i64 v.h0]) rfl (by kernel_rfl) (by kernel_rfl) (by kernel_rfl) (fun _ _ _ h => h) (Or.inl ⟨by rfl, by intro w hSw; (try dsimp only at hSw); go_simp⟩) (by assumption) ?_
        (try simp only [Act.put])
        refine wpAnyH_take (i := 9) (v := .int .i64 e0) rfl (by kernel_rfl) (by kernel_rfl) (by kernel_rfl) (fun _ _ _ h => h) (Or.inl ⟨by rfl, by intro w hSw; (try dsimp only at hSw); go_simp⟩) (by assumption) ?_
        (try simp only [Act.put])
        refine wpAnyH_take (i := 10) (v := .pointer (some ⟨gy + 1, 0, none⟩)) rfl (by kernel_rfl) (by kernel_rfl) (by kernel_rfl) (fun _ _ _ h => h) (Or.inl ⟨by rfl, by intro w hSw; (try dsimp only at hSw); go_simp⟩) (by assumption) ?_
        (try simp only [Act.put])
        replace KW := Lib.hid (KW.out.keep Y3.out)
        replace KV := Lib.hid (KV.out.keep Y3.out)
        replace KX := Lib.hid (KX.out.keep Y3.out)
        replace KY := Lib.hid (KY.out.keep Y3.out)
        replace HB := Lib.hid (below_mono HB.out Y3.out)
        clear JS S1 T1 S2 T2 Y0 Y1 Y2 Y3
        have z0 : v3.cell? ⟨gy + 1, 0, none⟩ = some (.int .i64 0) := KW.out.at_ 0 rfl
        have z1 : v3.cell? ⟨gy + 1, 1, none⟩ = some (.int .i64 0) := KW.out.at_ 1 rfl
        have f0 := KW.out.frozen 0
        have f1 := KW.out.frozen 1
        have KX' := Lib.hid (bxq_set (bxq_set KX.out (show gx ≠ gy + 1 by omega) z0 (.int .i64 v.l0)) (show gx ≠ gy + 1 by omega) ((KW.out.put 0 (.int .i64 v.l0) rfl).at_ 1 rfl) (.int .i64 v.h0))
        have KY' := Lib.hid (bxq_set (bxq_set KY.out (show gy ≠ gy + 1 by omega) z0 (.int .i64 v.l0)) (show gy ≠ gy + 1 by omega) ((KW.out.put 0 (.int .i64 v.l0) rfl).at_ 1 rfl) (.int .i64 v.h0))
        have KW' := Lib.hid ((KW.out.put 0 (.int .i64 v.l0) rfl).put 1 (.int .i64 v.h0) rfl)
        have KV' := Lib.hid ((KV.out.far (p := ⟨gy + 1, 0, none⟩) (show w.heap.size + 1 ≠ gy + 1 by omega) (.int .i64 v.l0)).far (p := ⟨gy + 1, 1, none⟩) (show w.heap.size + 1 ≠ gy + 1 by omega) (.int .i64 v.h0))
        have HB' := Lib.hid (below_set2 (i := 0) (j := 1) HB.out (show w.heap.size ≤ gy + 1 by omega) (.int .i64 v.l0) (.int .i64 v.h0))
        refine wpAnyH_ready (rs := [11]) (by kernel_rfl) (by simp) ?_
        refine AllReadyH.cons rfl (fun K hK => ?_) AllReadyH.nil
        go_simp
        refine hK.out _ _ (⟨KX'.out.k.1, KX'.out.k.2.1, KX'.out.k.2.2.1, KX'.out.k.2.2.2, KY'.out.k.1, KY'.out.k.2.1, KY'.out.k.2.2.1, KY'.out.k.2.2.2⟩) (fun hHeld2 => ?_)
        clear hK K hHeld
        have hHeld := hHeld2
        clear hHeld2
        (try simp only [Act.put])
        refine wpAnyH_ready (rs := [12]) (by kernel_rfl) (by simp) ?_
        refine AllReadyH.cons rfl (fun K hK => ?_) AllReadyH.nil
        go_simp
        refine hK.out _ _ (⟨KX'.out.k.1, KX'.out.k.2.1, KX'.out.k.2.2.1, KX'.out.k.2.2.2, KY'.out.k.1, KY'.out.k.2.1, KY'.out.k.2.2.1, KY'.out.k.2.2.2⟩) (fun hHeld2 => ?_)
        clear hK K hHeld
        have hHeld := hHeld2
        clear hHeld2
        (try simp only [Act.put])
        refine wpAnyH_done (by kernel_rfl) ?_ _
        clear hHeld z0 z1 f0 f1 KX KY KW KV HB
        generalize (v3.setCell ⟨gy + 1, 0, none⟩ (.int .i64 v.l0)).setCell ⟨gy + 1, 1, none⟩ (.int .i64 v.h0) = v4 at *
        by_cases hz : e0 = 0
        · have tz : (e0 != 0) = false := by rw [hz]; rfl
          go_wp2
          go_roundw
          case rel => exact ⟨1, by omega, by go_num, fun _ => hz, fun h => by omega, fun h => by omega, KW'.out, KV'.out, KX'.out, KY'.out, HB'.out⟩
          case measure => simp [intOf]
        · have tz : (e0 != 0) = true := bne_iff_ne.2 hz
          have ER := Lib.hid (EB.out (.inl hz))
          have E16 : Hid (e0 = 16) := err16 V0.out hz
          have a0 := KV'.out.at_ 0 rfl
          have a1 := KV'.out.at_ 1 rfl
          have a2 := KV'.out.at_ 2 rfl
          have a3 := KV'.out.at_ 3 rfl
          have a4 := KV'.out.at_ 4 rfl
          have a5 := KV'.out.at_ 5 rfl
          have f0 := KV'.out.frozen 0
          have f1 := KV'.out.frozen 1
          have f2 := KV'.out.frozen 2
          have f3 := KV'.out.frozen 3
          have f4 := KV'.out.frozen 4
          have f5 := KV'.out.frozen 5
          go_wp2
          exact bodyPost_ret (v := .tuple #[.agg #[.int .i64 0, .int .i64 0, .int .i64 0, .int .i64 0, .int .i64 0, .int .i64 0], .int .i64 e0]) (by simp [results, Try.results10, go_sem, a0, a1, a2, a3, a4, a5]) rfl ⟨by rw [ER.out, E16.out] <;> rfl, below_set6 HB'.out (Nat.le_succ _) _ _ _ _ _ _⟩
      · skip
        go_upto_region 10 with fail
        have JS : Hid (∀ X, Below wz.heap.size wz X → X.cell? ⟨gx, 0, none⟩ = some (.bool (frQ x).1.1) ∧ X.cell? ⟨gx, 1, none⟩ = some (.slice Ax (frQ x).1.2.length cx) ∧ X.cell? ⟨gx, 2, none⟩ = some (.bool (frQ x).2.1) ∧ X.cell? ⟨gx, 3, none⟩ = some (.slice Bx (frQ x).2.2.length dx) ∧ X.cell? ⟨gy, 0, none⟩ = some (.bool (frQ y).1.1) ∧ X.cell? ⟨gy, 1, none⟩ = some (.slice Ay (frQ y).1.2.length cy) ∧ X.cell? ⟨gy, 2, none⟩ = some (.bool (frQ y).2.1) ∧ X.cell? ⟨gy, 3, none⟩ = some (.slice By (frQ y).2.2.length dy)) := fun X h => ⟨(KX.out.keep h).k.1, (KX.out.keep h).k.2.1, (KX.out.keep h).k.2.2.1, (KX.out.keep h).k.2.2.2, (KY.out.keep h).k.1, (KY.out.keep h).k.2.1, (KY.out.keep h).k.2.2.1, (KY.out.keep h).k.2.2.2⟩
        have Y0 : Hid (Below wz.heap.size wz wz.drew) := (Below.refl _ _).drew
        have FS := Lib.hid (few_sp (OS.out wz HB.out).i1 n1 FX.out)
        have FM := Lib.hid (q_mul FS.out FY.out (by omega)).2
        refine wp_region_held_drew (S := fun w' => w'.cell? ⟨gx, 0, none⟩ = some (.bool (frQ x).1.1) ∧ w'.cell? ⟨gx, 1, none⟩ = some (.slice Ax (frQ x).1.2.length cx) ∧ w'.cell? ⟨gx, 2, none⟩ = some (.bool (frQ x).2.1) ∧ w'.cell? ⟨gx, 3, none⟩ = some (.slice Bx (frQ x).2.2.length dx) ∧ w'.cell? ⟨gy, 0, none⟩ = some (.bool (frQ y).1.1) ∧ w'.cell? ⟨gy, 1, none⟩ = some (.slice Ay (frQ y).1.2.length cy) ∧ w'.cell? ⟨gy, 2, none⟩ = some (.bool (frQ y).2.1) ∧ w'.cell? ⟨gy, 3, none⟩ = some (.slice By (frQ y).2.2.length dy)) (by kernel_rfl) (JS.out _ Y0.out) (fun hHeld => ?_)
        refine wpAnyH_take (i := 0) (v := .int .i64 1) rfl (by kernel_rfl) (by kernel_rfl) (by kernel_rfl) (fun _ _ _ h => h) (Or.inl ⟨by rfl, by intro w hSw; (try dsimp only at hSw); go_simp⟩) (by assumption) ?_
        (try simp only [Act.put])
        refine wpAnyH_take (i := 1) (v := .slice s.A1 s.l1.length s.c1) rfl (by kernel_rfl) (by kernel_rfl) (by kernel_rfl) (fun _ _ _ h => h) (Or.inl ⟨by rfl, by intro w hSw; (try dsimp only at hSw); go_simp⟩) (by assumption) ?_
        (try simp only [Act.put])
        refine wpAnyH_take (i := 2) (v := .agg #[.bool (frQ x).1.1, .slice Ax (frQ x).1.2.length cx, .bool (frQ x).2.1, .slice Bx (frQ x).2.2.length dx]) rfl (by kernel_rfl) (by kernel_rfl) (by kernel_rfl) (fun _ _ _ h => h) (Or.inl ⟨by rfl, by intro w hSw; (try dsimp only at hSw); go_simp⟩) (by assumption) ?_
        (try simp only [Act.put])
        refine wpAnyH_take (i := 4) (v := .agg #[.bool (frQ y).1.1, .slice Ay (frQ y).1.2.length cy, .bool (frQ y).2.1, .slice By (frQ y).2.2.length dy]) rfl (by kernel_rfl) (by kernel_rfl) (by kernel_rfl) (fun _ _ _ h => h) (Or.inl ⟨by rfl, by intro w hSw; (try dsimp only at hSw); go_simp⟩) (by assumption) ?_
        (try simp only [Act.put])
        refine wpAnyH_ready (rs := [3]) (by kernel_rfl) (by simp) ?_
        refine AllReadyH.cons rfl (fun K hK => ?_) AllReadyH.nil
        go_simp
        (with_reducible refine (scoord_q s.l1 s.A1 s.c1 B x Ax Bx cx dx wz.drew (OS.out _ (below_mono HB.out Y0.out)).i1 Q1.out n1 FX.out (KX.out.keep Y0.out).s (KX.out.keep Y0.out).t).mono ?_)
        rintro e v1 ⟨A1, c1, B1, d1, rfl, hs1, ht1, hb⟩
        (try dsimp only)
        (try dsimp only at hs1 ht1)
        have Y1 := Lib.hid (below_mono Y0.out hb)
        have S1 := Lib.hid hs1
        have T1 := Lib.hid ht1
        clear hb hs1 ht1
        (try go_wp2_with fail)
        refine hK.out _ _ (JS.out _ Y1.out) (fun hHeld2 => ?_)
        clear hK K hHeld
        have hHeld := hHeld2
        clear hHeld2
        (try simp only [Act.put])
        refine wpAnyH_ready (rs := [5]) (by kernel_rfl) (by simp) ?_
        refine AllReadyH.cons rfl (fun K hK => ?_) AllReadyH.nil
        go_simp
        (with_reducible refine (emul_q FS.out FY.out (by omega) v1 A1 B1 Ay By c1 d1 cy dy S1.out T1.out (KY.out.keep Y1.out).s (KY.out.keep Y1.out).t).mono ?_)
        rintro e v2 ⟨A2, c2, B2, d2, rfl, hs1, ht1, hb⟩
        (try dsimp only)
        (try dsimp only at hs1 ht1)
        have Y2 := Lib.hid (below_mono Y1.out hb)
        have S2 := Lib.hid hs1
        have T2 := Lib.hid ht1
        clear hb hs1 ht1
        (try go_wp2_with fail)
        refine hK.out _ _ (JS.out _ Y2.out) (fun hHeld2 => ?_)
        clear hK K hHeld
        have hHeld := hHeld2
        clear hHeld2
        (try simp only [Act.put])
        refine wpAnyH_ready (rs := [6]) (by kernel_rfl) (by simp) ?_
        refine AllReadyH.cons rfl (fun K hK => ?_) AllReadyH.nil
        go_simp
        (with_reducible refine (units_q (spQ s.l1 x * y) 702 FM.out (by omega) A2 B2 c2 d2 v2 S2.out T2.out).mono ?_)
        rintro e v3 ⟨rfl, hb⟩
        (try dsimp only)
        rw [unS_eq, V1.out]
        (try dsimp only)
        have Y3 := Lib.hid (below_mono Y2.out hb)
        clear hb
        (try go_wp2_with fail)
        refine hK.out _ _ (JS.out _ Y3.out) (fun hHeld2 => ?_)
        clear hK K hHeld
        have hHeld := hHeld2
        clear hHeld2
        (try simp only [Act.put])
        refine wpAnyH_take (i := 7) (v := .tuple #[.agg #[.int .i64 v.l1, .int .i64 v.h1], .int .i64 e1]) rfl (by kernel_rfl) (by kernel_rfl) (by kernel_rfl) (fun _ _ _ h => h) (Or.inl ⟨by rfl, by intro w hSw; (try dsimp only at hSw); go_simp⟩) (by assumption) ?_
        (try simp only [Act.put])
        refine wpAnyH_take (i := 8) (v := .agg #[.int .i64 v.l1, .int .i64 v.h1]) rfl (by kernel_rfl) (by kernel_rfl) (by kernel_rfl) (fun _ _ _ h => h) (Or.inl ⟨by rfl, by intro w hSw; (try dsimp only at hSw); go_simp⟩) (by assumption) ?_
        (try simp only [Act.put])
        refine wpAnyH_take (i := 9) (v := .int .i64 e1) rfl (by kernel_rfl) (by kernel_rfl) (by kernel_rfl) (fun _ _ _ h => h) (Or.inl ⟨by rfl, by intro w hSw; (try dsimp only at hSw); go_simp⟩) (by assumption) ?_
        (try simp only [Act.put])
        refine wpAnyH_take (i := 10) (v := .pointer (some ⟨gy + 1, 2, none⟩)) rfl (by kernel_rfl) (by kernel_rfl) (by kernel_rfl) (fun _ _ _ h => h) (Or.inl ⟨by rfl, by intro w hSw; (try dsimp only at hSw); go_simp⟩) (by assumption) ?_
        (try simp only [Act.put])
        replace KW := Lib.hid (KW.out.keep Y3.out)
        replace KV := Lib.hid (KV.out.keep Y3.out)
        replace KX := Lib.hid (KX.out.keep Y3.out)
        replace KY := Lib.hid (KY.out.keep Y3.out)
        replace HB := Lib.hid (below_mono HB.out Y3.out)
        clear JS S1 T1 S2 T2 Y0 Y1 Y2 Y3
        have z0 : v3.cell? ⟨gy + 1, 2, none⟩ = some (.int .i64 0) := KW.out.at_ 2 rfl
        have z1 : v3.cell? ⟨gy + 1, 3, none⟩ = some (.int .i64 0) := KW.out.at_ 3 rfl
        have f0 := KW.out.frozen 2
        have f1 := KW.out.frozen 3
        have KX' := Lib.hid (bxq_set (bxq_set KX.out (show gx ≠ gy + 1 by omega) z0 (.int .i64 v.l1)) (show gx ≠ gy + 1 by omega) ((KW.out.put 2 (.int .i64 v.l1) rfl).at_ 3 rfl) (.int .i64 v.h1))
        have KY' := Lib.hid (bxq_set (bxq_set KY.out (show gy ≠ gy + 1 by omega) z0 (.int .i64 v.l1)) (show gy ≠ gy + 1 by omega) ((KW.out.put 2 (.int .i64 v.l1) rfl).at_ 3 rfl) (.int .i64 v.h1))
        have KW' := Lib.hid ((KW.out.put 2 (.int .i64 v.l1) rfl).put 3 (.int .i64 v.h1) rfl)
        have KV' := Lib.hid ((KV.out.far (p := ⟨gy + 1, 2, none⟩) (show w.heap.size + 1 ≠ gy + 1 by omega) (.int .i64 v.l1)).far (p := ⟨gy + 1, 3, none⟩) (show w.heap.size + 1 ≠ gy + 1 by omega) (.int .i64 v.h1))
        have HB' := Lib.hid (below_set2 (i := 2) (j := 3) HB.out (show w.heap.size ≤ gy + 1 by omega) (.int .i64 v.l1) (.int .i64 v.h1))
        refine wpAnyH_ready (rs := [11]) (by kernel_rfl) (by simp) ?_
        refine AllReadyH.cons rfl (fun K hK => ?_) AllReadyH.nil
        go_simp
        refine hK.out _ _ (⟨KX'.out.k.1, KX'.out.k.2.1, KX'.out.k.2.2.1, KX'.out.k.2.2.2, KY'.out.k.1, KY'.out.k.2.1, KY'.out.k.2.2.1, KY'.out.k.2.2.2⟩) (fun hHeld2 => ?_)
        clear hK K hHeld
        have hHeld := hHeld2
        clear hHeld2
        (try simp only [Act.put])
        refine wpAnyH_ready (rs := [12]) (by kernel_rfl) (by simp) ?_
        refine AllReadyH.cons rfl (fun K hK => ?_) AllReadyH.nil
        go_simp
        refine hK.out _ _ (⟨KX'.out.k.1, KX'.out.k.2.1, KX'.out.k.2.2.1, KX'.out.k.2.2.2, KY'.out.k.1, KY'.out.k.2.1, KY'.out.k.2.2.1, KY'.out.k.2.2.2⟩) (fun hHeld2 => ?_)
        clear hK K hHeld
        have hHeld := hHeld2
        clear hHeld2
        (try simp only [Act.put])
        refine wpAnyH_done (by kernel_rfl) ?_ _
        clear hHeld z0 z1 f0 f1 KX KY KW KV HB
        generalize (v3.setCell ⟨gy + 1, 2, none⟩ (.int .i64 v.l1)).setCell ⟨gy + 1, 3, none⟩ (.int .i64 v.h1) = v4 at *
        by_cases hz : e1 = 0
        · have tz : (e1 != 0) = false := by rw [hz]; rfl
          go_wp2
          go_roundw
          case rel => exact ⟨2, by omega, by go_num, fun _ => he0 (by omega), fun _ => hz, fun h => by omega, KW'.out, KV'.out, KX'.out, KY'.out, HB'.out⟩
          case measure => simp [intOf]
        · have tz : (e1 != 0) = true := bne_iff_ne.2 hz
          have ER := Lib.hid (EB.out (.inr (.inl hz)))
          have E16 : Hid (e1 = 16) := err16 V1.out hz
          have a0 := KV'.out.at_ 0 rfl
          have a1 := KV'.out.at_ 1 rfl
          have a2 := KV'.out.at_ 2 rfl
          have a3 := KV'.out.at_ 3 rfl
          have a4 := KV'.out.at_ 4 rfl
          have a5 := KV'.out.at_ 5 rfl
          have f0 := KV'.out.frozen 0
          have f1 := KV'.out.frozen 1
          have f2 := KV'.out.frozen 2
          have f3 := KV'.out.frozen 3
          have f4 := KV'.out.frozen 4
          have f5 := KV'.out.frozen 5
          go_wp2
          exact bodyPost_ret (v := .tuple #[.agg #[.int .i64 0, .int .i64 0, .int .i64 0, .int .i64 0, .int .i64 0, .int .i64 0], .int .i64 e1]) (by simp [results, Try.results10, go_sem, a0, a1, a2, a3, a4, a5]) rfl ⟨by rw [ER.out, E16.out] <;> rfl, below_set6 HB'.out (Nat.le_succ _) _ _ _ _ _ _⟩
      · skip
        go_upto_region 10 with fail
        have JS : Hid (∀ X, Below wz.heap.size wz X → X.cell? ⟨gx, 0, none⟩ = some (.bool (frQ x).1.1) ∧ X.cell? ⟨gx, 1, none⟩ = some (.slice Ax (frQ x).1.2.length cx) ∧ X.cell? ⟨gx, 2, none⟩ = some (.bool (frQ x).2.1) ∧ X.cell? ⟨gx, 3, none⟩ = some (.slice Bx (frQ x).2.2.length dx) ∧ X.cell? ⟨gy, 0, none⟩ = some (.bool (frQ y).1.1) ∧ X.cell? ⟨gy, 1, none⟩ = some (.slice Ay (frQ y).1.2.length cy) ∧ X.cell? ⟨gy, 2, none⟩ = some (.bool (frQ y).2.1) ∧ X.cell? ⟨gy, 3, none⟩ = some (.slice By (frQ y).2.2.length dy)) := fun X h => ⟨(KX.out.keep h).k.1, (KX.out.keep h).k.2.1, (KX.out.keep h).k.2.2.1, (KX.out.keep h).k.2.2.2, (KY.out.keep h).k.1, (KY.out.keep h).k.2.1, (KY.out.keep h).k.2.2.1, (KY.out.keep h).k.2.2.2⟩
        have Y0 : Hid (Below wz.heap.size wz wz.drew) := (Below.refl _ _).drew
        have FS := Lib.hid (few_sp (OS.out wz HB.out).i2 n2 FX.out)
        have FM := Lib.hid (q_mul FS.out FY.out (by omega)).2
        refine wp_region_held_drew (S := fun w' => w'.cell? ⟨gx, 0, none⟩ = some (.bool (frQ x).1.1) ∧ w'.cell? ⟨gx, 1, none⟩ = some (.slice Ax (frQ x).1.2.length cx) ∧ w'.cell? ⟨gx, 2, none⟩ = some (.bool (frQ x).2.1) ∧ w'.cell? ⟨gx, 3, none⟩ = some (.slice Bx (frQ x).2.2.length dx) ∧ w'.cell? ⟨gy, 0, none⟩ = some (.bool (frQ y).1.1) ∧ w'.cell? ⟨gy, 1, none⟩ = some (.slice Ay (frQ y).1.2.length cy) ∧ w'.cell? ⟨gy, 2, none⟩ = some (.bool (frQ y).2.1) ∧ w'.cell? ⟨gy, 3, none⟩ = some (.slice By (frQ y).2.2.length dy)) (by kernel_rfl) (JS.out _ Y0.out) (fun hHeld => ?_)
        refine wpAnyH_take (i := 0) (v := .int .i64 2) rfl (by kernel_rfl) (by kernel_rfl) (by kernel_rfl) (fun _ _ _ h => h) (Or.inl ⟨by rfl, by intro w hSw; (try dsimp only at hSw); go_simp⟩) (by assumption) ?_
        (try simp only [Act.put])
        refine wpAnyH_take (i := 1) (v := .slice s.A2 s.l2.length s.c2) rfl (by kernel_rfl) (by kernel_rfl) (by kernel_rfl) (fun _ _ _ h => h) (Or.inl ⟨by rfl, by intro w hSw; (try dsimp only at hSw); go_simp⟩) (by assumption) ?_
        (try simp only [Act.put])
        refine wpAnyH_take (i := 2) (v := .agg #[.bool (frQ x).1.1, .slice Ax (frQ x).1.2.length cx, .bool (frQ x).2.1, .slice Bx (frQ x).2.2.length dx]) rfl (by kernel_rfl) (by kernel_rfl) (by kernel_rfl) (fun _ _ _ h => h) (Or.inl ⟨by rfl, by intro w hSw; (try dsimp only at hSw); go_simp⟩) (by assumption) ?_
        (try simp only [Act.put])
        refine wpAnyH_take (i := 4) (v := .agg #[.bool (frQ y).1.1, .slice Ay (frQ y).1.2.length cy, .bool (frQ y).2.1, .slice By (frQ y).2.2.length dy]) rfl (by kernel_rfl) (by kernel_rfl) (by kernel_rfl) (fun _ _ _ h => h) (Or.inl ⟨by rfl, by intro w hSw; (try dsimp only at hSw); go_simp⟩) (by assumption) ?_
        (try simp only [Act.put])
        refine wpAnyH_ready (rs := [3]) (by kernel_rfl) (by simp) ?_
        refine AllReadyH.cons rfl (fun K hK => ?_) AllReadyH.nil
        go_simp
        (with_reducible refine (scoord_q s.l2 s.A2 s.c2 B x Ax Bx cx dx wz.drew (OS.out _ (below_mono HB.out Y0.out)).i2 Q2.out n2 FX.out (KX.out.keep Y0.out).s (KX.out.keep Y0.out).t).mono ?_)
        rintro e v1 ⟨A1, c1, B1, d1, rfl, hs1, ht1, hb⟩
        (try dsimp only)
        (try dsimp only at hs1 ht1)
        have Y1 := Lib.hid (below_mono Y0.out hb)
        have S1 := Lib.hid hs1
        have T1 := Lib.hid ht1
        clear hb hs1 ht1
        (try go_wp2_with fail)
        refine hK.out _ _ (JS.out _ Y1.out) (fun hHeld2 => ?_)
        clear hK K hHeld
        have hHeld := hHeld2
        clear hHeld2
        (try simp only [Act.put])
        refine wpAnyH_ready (rs := [5]) (by kernel_rfl) (by simp) ?_
        refine AllReadyH.cons rfl (fun K hK => ?_) AllReadyH.nil
        go_simp
        (with_reducible refine (emul_q FS.out FY.out (by omega) v1 A1 B1 Ay By c1 d1 cy dy S1.out T1.out (KY.out.keep Y1.out).s (KY.out.keep Y1.out).t).mono ?_)
        rintro e v2 ⟨A2, c2, B2, d2, rfl, hs1, ht1, hb⟩
        (try dsimp only)
        (try dsimp only at hs1 ht1)
        have Y2 := Lib.hid (below_mono Y1.out hb)
        have S2 := Lib.hid hs1
        have T2 := Lib.hid ht1
        clear hb hs1 ht1
        (try go_wp2_with fail)
        refine hK.out _ _ (JS.out _ Y2.out) (fun hHeld2 => ?_)
        clear hK K hHeld
        have hHeld := hHeld2
        clear hHeld2
        (try simp only [Act.put])
        refine wpAnyH_ready (rs := [6]) (by kernel_rfl) (by simp) ?_
        refine AllReadyH.cons rfl (fun K hK => ?_) AllReadyH.nil
        go_simp
        (with_reducible refine (units_q (spQ s.l2 x * y) 702 FM.out (by omega) A2 B2 c2 d2 v2 S2.out T2.out).mono ?_)
        rintro e v3 ⟨rfl, hb⟩
        (try dsimp only)
        rw [unS_eq, V2.out]
        (try dsimp only)
        have Y3 := Lib.hid (below_mono Y2.out hb)
        clear hb
        (try go_wp2_with fail)
        refine hK.out _ _ (JS.out _ Y3.out) (fun hHeld2 => ?_)
        clear hK K hHeld
        have hHeld := hHeld2
        clear hHeld2
        (try simp only [Act.put])
        refine wpAnyH_take (i := 7) (v := .tuple #[.agg #[.int .i64 v.l2, .int .i64 v.h2], .int .i64 e2]) rfl (by kernel_rfl) (by kernel_rfl) (by kernel_rfl) (fun _ _ _ h => h) (Or.inl ⟨by rfl, by intro w hSw; (try dsimp only at hSw); go_simp⟩) (by assumption) ?_
        (try simp only [Act.put])
        refine wpAnyH_take (i := 8) (v := .agg #[.int .i64 v.l2, .int .i64 v.h2]) rfl (by kernel_rfl) (by kernel_rfl) (by kernel_rfl) (fun _ _ _ h => h) (Or.inl ⟨by rfl, by intro w hSw; (try dsimp only at hSw); go_simp⟩) (by assumption) ?_
        (try simp only [Act.put])
        refine wpAnyH_take (i := 9) (v := .int .i64 e2) rfl (by kernel_rfl) (by kernel_rfl) (by kernel_rfl) (fun _ _ _ h => h) (Or.inl ⟨by rfl, by intro w hSw; (try dsimp only at hSw); go_simp⟩) (by assumption) ?_
        (try simp only [Act.put])
        refine wpAnyH_take (i := 10) (v := .pointer (some ⟨gy + 1, 4, none⟩)) rfl (by kernel_rfl) (by kernel_rfl) (by kernel_rfl) (fun _ _ _ h => h) (Or.inl ⟨by rfl, by intro w hSw; (try dsimp only at hSw); go_simp⟩) (by assumption) ?_
        (try simp only [Act.put])
        replace KW := Lib.hid (KW.out.keep Y3.out)
        replace KV := Lib.hid (KV.out.keep Y3.out)
        replace KX := Lib.hid (KX.out.keep Y3.out)
        replace KY := Lib.hid (KY.out.keep Y3.out)
        replace HB := Lib.hid (below_mono HB.out Y3.out)
        clear JS S1 T1 S2 T2 Y0 Y1 Y2 Y3
        have z0 : v3.cell? ⟨gy + 1, 4, none⟩ = some (.int .i64 0) := KW.out.at_ 4 rfl
        have z1 : v3.cell? ⟨gy + 1, 5, none⟩ = some (.int .i64 0) := KW.out.at_ 5 rfl
        have f0 := KW.out.frozen 4
        have f1 := KW.out.frozen 5
        have KX' := Lib.hid (bxq_set (bxq_set KX.out (show gx ≠ gy + 1 by omega) z0 (.int .i64 v.l2)) (show gx ≠ gy + 1 by omega) ((KW.out.put 4 (.int .i64 v.l2) rfl).at_ 5 rfl) (.int .i64 v.h2))
        have KY' := Lib.hid (bxq_set (bxq_set KY.out (show gy ≠ gy + 1 by omega) z0 (.int .i64 v.l2)) (show gy ≠ gy + 1 by omega) ((KW.out.put 4 (.int .i64 v.l2) rfl).at_ 5 rfl) (.int .i64 v.h2))
        have KW' := Lib.hid ((KW.out.put 4 (.int .i64 v.l2) rfl).put 5 (.int .i64 v.h2) rfl)
        have KV' := Lib.hid ((KV.out.far (p := ⟨gy + 1, 4, none⟩) (show w.heap.size + 1 ≠ gy + 1 by omega) (.int .i64 v.l2)).far (p := ⟨gy + 1, 5, none⟩) (show w.heap.size + 1 ≠ gy + 1 by omega) (.int .i64 v.h2))
        have HB' := Lib.hid (below_set2 (i := 4) (j := 5) HB.out (show w.heap.size ≤ gy + 1 by omega) (.int .i64 v.l2) (.int .i64 v.h2))
        refine wpAnyH_ready (rs := [11]) (by kernel_rfl) (by simp) ?_
        refine AllReadyH.cons rfl (fun K hK => ?_) AllReadyH.nil
        go_simp
        refine hK.out _ _ (⟨KX'.out.k.1, KX'.out.k.2.1, KX'.out.k.2.2.1, KX'.out.k.2.2.2, KY'.out.k.1, KY'.out.k.2.1, KY'.out.k.2.2.1, KY'.out.k.2.2.2⟩) (fun hHeld2 => ?_)
        clear hK K hHeld
        have hHeld := hHeld2
        clear hHeld2
        (try simp only [Act.put])
        refine wpAnyH_ready (rs := [12]) (by kernel_rfl) (by simp) ?_
        refine AllReadyH.cons rfl (fun K hK => ?_) AllReadyH.nil
        go_simp
        refine hK.out _ _ (⟨KX'.out.k.1, KX'.out.k.2.1, KX'.out.k.2.2.1, KX'.out.k.2.2.2, KY'.out.k.1, KY'.out.k.2.1, KY'.out.k.2.2.1, KY'.out.k.2.2.2⟩) (fun hHeld2 => ?_)
        clear hK K hHeld
        have hHeld := hHeld2
        clear hHeld2
        (try simp only [Act.put])
        refine wpAnyH_done (by kernel_rfl) ?_ _
        clear hHeld z0 z1 f0 f1 KX KY KW KV HB
        generalize (v3.setCell ⟨gy + 1, 4, none⟩ (.int .i64 v.l2)).setCell ⟨gy + 1, 5, none⟩ (.int .i64 v.h2) = v4 at *
        by_cases hz : e2 = 0
        · have tz : (e2 != 0) = false := by rw [hz]; rfl
          go_wp2
          go_roundw
          case rel => exact ⟨3, by omega, by go_num, fun _ => he0 (by omega), fun _ => he1 (by omega), fun _ => hz, KW'.out, KV'.out, KX'.out, KY'.out, HB'.out⟩
          case measure => simp [intOf]
        · have tz : (e2 != 0) = true := bne_iff_ne.2 hz
          have ER := Lib.hid (EB.out (.inr (.inr hz)))
          have E16 : Hid (e2 = 16) := err16 V2.out hz
          have a0 := KV'.out.at_ 0 rfl
          have a1 := KV'.out.at_ 1 rfl
          have a2 := KV'.out.at_ 2 rfl
          have a3 := KV'.out.at_ 3 rfl
          have a4 := KV'.out.at_ 4 rfl
          have a5 := KV'.out.at_ 5 rfl
          have f0 := KV'.out.frozen 0
          have f1 := KV'.out.frozen 1
          have f2 := KV'.out.frozen 2
          have f3 := KV'.out.frozen 3
          have f4 := KV'.out.frozen 4
          have f5 := KV'.out.frozen 5
          go_wp2
          exact bodyPost_ret (v := .tuple #[.agg #[.int .i64 0, .int .i64 0, .int .i64 0, .int .i64 0, .int .i64 0, .int .i64 0], .int .i64 e2]) (by simp [results, Try.results10, go_sem, a0, a1, a2, a3, a4, a5]) rfl ⟨by rw [ER.out, E16.out] <;> rfl, below_set6 HB'.out (Nat.le_succ _) _ _ _ _ _ _⟩
      · replace KW : Hid (BlkV wz (gy + 1) 38 #[.int .i64 v.l0, .int .i64 v.h0, .int .i64 v.l1, .int .i64 v.h1, .int .i64 v.l2, .int .i64 v.h2]) := KW.out
        have ER := Lib.hid (EG.out (he0 (by omega)) (he1 (by omega)) (he2 (by omega)))
        have b0 := KW.out.at_ 0 rfl
        have b1 := KW.out.at_ 1 rfl
        have b2 := KW.out.at_ 2 rfl
        have b3 := KW.out.at_ 3 rfl
        have b4 := KW.out.at_ 4 rfl
        have b5 := KW.out.at_ 5 rfl
        have a0 := KV.out.at_ 0 rfl
        have a1 := KV.out.at_ 1 rfl
        have a2 := KV.out.at_ 2 rfl
        have a3 := KV.out.at_ 3 rfl
        have a4 := KV.out.at_ 4 rfl
        have a5 := KV.out.at_ 5 rfl
        have f0 := KV.out.frozen 0
        have f1 := KV.out.frozen 1
        have f2 := KV.out.frozen 2
        have f3 := KV.out.frozen 3
        have f4 := KV.out.frozen 4
        have f5 := KV.out.frozen 5
        go_wp2
        exact bodyPost_ret (v := .tuple #[.agg #[.int .i64 v.l0, .int .i64 v.h0, .int .i64 v.l1, .int .i64 v.h1, .int .i64 v.l2, .int .i64 v.h2], .int .i64 0]) (by simp [results, Try.results10, go_sem, a0, a1, a2, a3, a4, a5]) rfl ⟨by rw [ER.out], below_set6 HB.out (Nat.le_succ _) _ _ _ _ _ _⟩
  · have t0 : (x != 0) = true := bne_iff_ne.2 hx
    rw [if_neg hx]
    clear OK OS hx
    go_enter Try.func10, Try.ntmps10
    go_wp2_with (fail)
    generalize hwz : (w.alloc (.cells #[.slice A bs.length c] 24)).alloc (.cells #[.int .i64 0, .int .i64 0, .int .i64 0, .int .i64 0, .int .i64 0, .int .i64 0] 38) = wz at *
    have KV : Hid (BlkV wz (w.heap.size + 1) 38 #[.int .i64 0, .int .i64 0, .int .i64 0, .int .i64 0, .int .i64 0, .int .i64 0]) := by rw [← hwz]; exact BlkV.fresh (by simp) _ _
    have HB : Hid (Below w.heap.size w wz) := by rw [← hwz]; exact below_mono (blw1 _ _) (blw1 _ _)
    clear hwz
    refine (CF.out wz HB.out).mono ?_
    rintro e w1 ⟨rfl, hb⟩
    replace KV := Lib.hid (KV.out.keep hb)
    replace HB := Lib.hid (below_mono HB.out hb)
    clear hb CF
    go_upto_region 2 with fail
    generalize hwx : w1.alloc (.cells #[.int .i64 s.F, .int .i64 s.T, .slice s.A0 s.l0.length s.c0, .slice s.A1 s.l1.length s.c1, .slice s.A2 s.l2.length s.c2] 31) = wx at *
    replace KV : Hid (BlkV wx (w.heap.size + 1) 38 #[.int .i64 0, .int .i64 0, .int .i64 0, .int .i64 0, .int .i64 0, .int .i64 0]) := by rw [← hwx]; exact KV.out.alloc _
    replace HB : Hid (Below w.heap.size w wx) := by rw [← hwx]; exact below_mono HB.out (blw1 _ _)
    clear hwx
    have a0 := KV.out.at_ 0 rfl
    have a1 := KV.out.at_ 1 rfl
    have a2 := KV.out.at_ 2 rfl
    have a3 := KV.out.at_ 3 rfl
    have a4 := KV.out.at_ 4 rfl
    have a5 := KV.out.at_ 5 rfl
    have f0 := KV.out.frozen 0
    have f1 := KV.out.frozen 1
    have f2 := KV.out.frozen 2
    have f3 := KV.out.frozen 3
    have f4 := KV.out.frozen 4
    have f5 := KV.out.frozen 5
    go_wp2
    exact bodyPost_ret (v := .tuple #[.agg #[.int .i64 0, .int .i64 0, .int .i64 0, .int .i64 0, .int .i64 0, .int .i64 0], .int .i64 x]) (by simp [results, Try.results10, go_sem, a0, a1, a2, a3, a4, a5]) rfl ⟨rfl, below_set6 HB.out (Nat.le_succ _) _ _ _ _ _ _⟩

end Go.Proofs.Ytghallnooijfhaa

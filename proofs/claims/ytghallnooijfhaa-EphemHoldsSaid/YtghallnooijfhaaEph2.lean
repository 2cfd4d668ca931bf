import Derived.Test.YtghallnooijfhaaMg1
import Derived.Test.YtghallnooijfhaaMg5
import Derived.Test.YtghallnooijfhaaMg10
import Derived.Test.YtghallnooijfhaaRegT
namespace Go.Proofs.Ytghallnooijfhaa
open Go.RowKit
attribute [local go_sem ↓] Go.wp_at_zero Go.wp_at_succ
theorem clen_step (c : Nat → Rat) (y : Rat) {n k : Nat} (h0 : 0 < k) (hk : k ≤ n - 1) : clen c y n (n - 1 - (k - 1)) = (c k + y * (clen c y n (n - 1 - k)).1 - (clen c y n (n - 1 - k)).2, (clen c y n (n - 1 - k)).1) := by
  rw [show n - 1 - (k - 1) = (n - 1 - k) + 1 by omega]
  simp only [clen]
  rw [show n - 1 - (n - 1 - k) = k by omega]

set_option maxRecDepth 100000 in
set_option maxHeartbeats 8000000 in
theorem clen_v (n : Nat) (hn0 : 0 < n) (hn : n ≤ 1000) (gb : Nat) (c : Nat → Rat) (y : Rat) (w : World) (A B : Option Addr) (cA cB : Nat) (sy : Sl w A (frQ y).1.2 cA) (ty : Sl w B (frQ y).2.2 cB)
    (hC : ∀ (k : Nat) V, Below w.heap.size w V → 0 < k → k < n → Calls Try.prog 47 #[.int .i64 k, .pointer (some ⟨gb, 0, none⟩)] V (FRes1 (frQ (c k)) V)) (hc2 : ∀ k, 0 < k → k < n → Few 2 (c k)) (hy : Few 5 y)
    (hF : ∀ j, j ≤ n - 1 → Few 400 (clen c y n j).1 ∧ Few 400 (clen c y n j).2) :
    Calls Try.prog 36 #[.int .i64 n, .func (.func 47) #[] #[.pointer (some ⟨gb, 0, none⟩)], .agg #[.bool (frQ y).1.1, .slice A (frQ y).1.2.length cA, .bool (frQ y).2.1, .slice B (frQ y).2.2.length cB]] w (F2Res (clen c y n (n - 1)).1 (clen c y n (n - 1)).2 w) := by
  have HC := Lib.hid hC
  have HC2 := Lib.hid hc2
  have HY := Lib.hid hy
  have HF := Lib.hid hF
  have Sy := Lib.hid sy
  have Ty := Lib.hid ty
  have hW : Hid (∀ V, Calls Try.prog 35 #[.int .i64 0] V (FRes1 (frQ 0) V)) := fun V => by have h := ewhole_q 0 (by omega) (by omega) V; rwa [Rat.intCast_zero] at h
  clear hC hc2 hy hF sy ty
  go_enter Try.func36, Try.ntmps36
  go_wp2_with (fail)
  generalize hwz : ((w.alloc (.cells #[.bool (frQ y).1.1, .slice A (frQ y).1.2.length cA, .bool (frQ y).2.1, .slice B (frQ y).2.2.length cB] 59)).alloc (.cells #[.bool false, .slice none 0 0, .bool false, .slice none 0 0] 59)).alloc (.cells #[.bool false, .slice none 0 0, .bool false, .slice none 0 0] 59) = wz at *
  have Kx : Hid (BxQ wz w.heap.size y A cA B cB) := by rw [← hwz]; exact ((BxQ.fresh rfl Sy.out Ty.out).alloc _).alloc _
  have Ku : Hid (Cf wz (w.heap.size + 1) false none 0 0 false none 0 0) := by rw [← hwz]; exact (Cf.fresh (by simp) _ _ _ _ _ _ _ _ _).keep (blw1 _ _)
  have Fu : Hid (Ff wz (w.heap.size + 1)) := by rw [← hwz]; exact (Ff.fresh (by simp) _ _).keep (Cf.fresh (by simp) _ _ _ _ _ _ _ _ _) (blw1 _ _)
  have Kv : Hid (Cf wz (w.heap.size + 2) false none 0 0 false none 0 0) := by rw [← hwz]; exact Cf.fresh (by simp) _ _ _ _ _ _ _ _ _
  have Fv : Hid (Ff wz (w.heap.size + 2)) := by rw [← hwz]; exact Ff.fresh (by simp) _ _
  have HB : Hid (Below w.heap.size w wz) := by rw [← hwz]; exact below_mono (below_mono (blw1 _ _) (blw1 _ _)) (blw1 _ _)
  clear hwz Sy Ty
  refine (hW.out _).mono ?_
  rintro e w1 ⟨A1, c1, B1, d1, rfl, hs1, ht1, hb⟩
  (try dsimp only at hs1 ht1)
  (try dsimp only)
  replace Fu := Lib.hid (Fu.out.keep Ku.out hb)
  replace Fv := Lib.hid (Fv.out.keep Kv.out hb)
  replace Kx := Lib.hid (Kx.out.keep hb)
  replace Ku := Lib.hid (Ku.out.keep hb)
  replace Kv := Lib.hid (Kv.out.keep hb)
  replace HB := Lib.hid (below_mono HB.out hb)
  have S1 := Lib.hid hs1
  have T1 := Lib.hid ht1
  clear hb hs1 ht1
  go_wp2_with fail
  refine (hW.out _).mono ?_
  rintro e w2 ⟨A2, c2, B2, d2, rfl, hs2, ht2, hb⟩
  (try dsimp only at hs2 ht2)
  (try dsimp only)
  replace Fu := Lib.hid (Fu.out.keep Ku.out hb)
  replace Fv := Lib.hid (Fv.out.keep Kv.out hb)
  replace Kx := Lib.hid (Kx.out.keep hb)
  replace Ku := Lib.hid (Ku.out.keep hb)
  replace Kv := Lib.hid (Kv.out.keep hb)
  replace HB := Lib.hid (below_mono HB.out hb)
  replace S1 := Lib.hid (S1.out.below hb)
  replace T1 := Lib.hid (T1.out.below hb)
  have S2 := Lib.hid hs2
  have T2 := Lib.hid ht2
  clear hb hs2 ht2
  obtain ⟨qu0, qu1, qu2, qu3⟩ := Ku.out
  obtain ⟨qv0, qv1, qv2, qv3⟩ := Kv.out
  obtain ⟨fu0, fu1, fu2, fu3⟩ := Fu.out
  obtain ⟨fv0, fv1, fv2, fv3⟩ := Fv.out
  go_upto_region 2 with fail
  generalize hwy : ((((((((w2).setCell ⟨w.heap.size + 1, 0, none⟩ (.bool (frQ 0).1.1)).setCell ⟨w.heap.size + 1, 1, none⟩ (.slice A1 (frQ 0).1.2.length c1)).setCell ⟨w.heap.size + 1, 2, none⟩ (.bool (frQ 0).2.1)).setCell ⟨w.heap.size + 1, 3, none⟩ (.slice B1 (frQ 0).2.2.length d1)).setCell ⟨w.heap.size + 2, 0, none⟩ (.bool (frQ 0).1.1)).setCell ⟨w.heap.size + 2, 1, none⟩ (.slice A2 (frQ 0).1.2.length c2)).setCell ⟨w.heap.size + 2, 2, none⟩ (.bool (frQ 0).2.1)).setCell ⟨w.heap.size + 2, 3, none⟩ (.slice B2 (frQ 0).2.2.length d2) = wy at *
  have I0 : Hid (CL w wy y 0 0 A cA B cB A1 c1 B1 d1 A2 c2 B2 d2) := by rw [← hwy]; exact CL.init Kx.out Ku.out Fu.out Kv.out Fv.out HB.out S1.out T1.out S2.out T2.out
  clear hwy Kx Ku Fu Kv Fv HB S1 T1 S2 T2 qu0 qu1 qu2 qu3 qv0 qv1 qv2 qv3 fu0 fu1 fu2 fu3 fv0 fv1 fv2 fv3
  go_wp2
  go_loopw [8] (fun s8 wr => ∃ (k : Nat) (A1 : Option Addr) (c1 : Nat) (B1 : Option Addr) (d1 : Nat) (A2 : Option Addr) (c2 : Nat) (B2 : Option Addr) (d2 : Nat), k ≤ n - 1 ∧ s8 = .int .i64 k ∧ CL w wr y (clen c y n (n - 1 - k)).1 (clen c y n (n - 1 - k)).2 A cA B cB A1 c1 B1 d1 A2 c2 B2 d2) (fun v _ => (intOf v).toNat)
  case atStart => exact ⟨n - 1, A1, c1, B1, d1, A2, c2, B2, d2, Nat.le_refl _, by go_num, by rw [Nat.sub_self]; exact I0.out⟩
  case round =>
    obtain ⟨k, A1, c1, B1, d1, A2, c2, B2, d2, hk, rfl, hI⟩ := hrel
    have I := Lib.hid hI
    clear hI I0
    by_cases h0 : 0 < k
    · have hst := clen_step c y h0 hk
      obtain ⟨FP, FQ⟩ := HF.out (n - 1 - k) (by omega)
      have E1 : Hid ((clen c y n (n - 1 - (k - 1))).1 = c k + y * (clen c y n (n - 1 - k)).1 - (clen c y n (n - 1 - k)).2) := congrArg Prod.fst hst
      have E2 : Hid ((clen c y n (n - 1 - (k - 1))).2 = (clen c y n (n - 1 - k)).1) := congrArg Prod.snd hst
      clear hst
      generalize (clen c y n (n - 1 - k)).1 = p at *
      generalize (clen c y n (n - 1 - k)).2 = q at *
      have hCk : Hid (∀ V, Below w.heap.size w V → Calls Try.prog 47 #[.int .i64 k, .pointer (some ⟨gb, 0, none⟩)] V (FRes1 (frQ (c k)) V)) := fun V hb => HC.out k V hb h0 (by omega)
      have FC := HC2.out k h0 (by omega)
      generalize c k = ck at *
      have F1 := (q_mul HY.out FP (by omega)).2
      have F2 := (q_add FC F1 (by omega)).2
      replace FP := Lib.hid FP
      replace FQ := Lib.hid FQ
      replace FC := Lib.hid FC
      replace F1 := Lib.hid F1
      replace F2 := Lib.hid F2
      have t5 : decide ((0 : Int) < (k : Int)) = true := decide_eq_true (by omega)
      go_upto_region 5 with fail
      have I0 := Lib.hid (I.out.drew)
      obtain ⟨qx0, qx1, qx2, qx3, qu0, qu1, qu2, qu3, qv0, qv1, qv2, qv3, qfu0, qfu1, qfu2, qfu3, qfv0, qfv1, qfv2, qfv3⟩ := I.out.cells
      have J0 := Lib.hid I0.out.held
      refine wp_region_HT (S := fun w' => w'.cell? ⟨w.heap.size, 0, none⟩ = some (.bool (frQ y).1.1) ∧ w'.cell? ⟨w.heap.size, 1, none⟩ = some (.slice A (frQ y).1.2.length cA) ∧ w'.cell? ⟨w.heap.size, 2, none⟩ = some (.bool (frQ y).2.1) ∧ w'.cell? ⟨w.heap.size, 3, none⟩ = some (.slice B (frQ y).2.2.length cB) ∧ w'.cell? ⟨w.heap.size + 1, 0, none⟩ = some (.bool (frQ p).1.1) ∧ w'.cell? ⟨w.heap.size + 1, 1, none⟩ = some (.slice A1 (frQ p).1.2.length c1) ∧ w'.cell? ⟨w.heap.size + 1, 2, none⟩ = some (.bool (frQ p).2.1) ∧ w'.cell? ⟨w.heap.size + 1, 3, none⟩ = some (.slice B1 (frQ p).2.2.length d1) ∧ w'.cell? ⟨w.heap.size + 2, 0, none⟩ = some (.bool (frQ q).1.1) ∧ w'.cell? ⟨w.heap.size + 2, 1, none⟩ = some (.slice A2 (frQ q).1.2.length c2) ∧ w'.cell? ⟨w.heap.size + 2, 2, none⟩ = some (.bool (frQ q).2.1) ∧ w'.cell? ⟨w.heap.size + 2, 3, none⟩ = some (.slice B2 (frQ q).2.2.length d2)) 10 (by kernel_rfl) (by kernel_rfl) J0.out (fun hHeld => ?_)
      refine wpHT_take (i := 0) (v := .func (.func 47) #[] #[.pointer (some ⟨gb, 0, none⟩)]) rfl (by kernel_rfl) (by decide) (by kernel_rfl) (by kernel_rfl) (by kernel_rfl) (fun _ _ _ h => h) (Or.inl ⟨by rfl, by intro w hSw; (try dsimp only at hSw); go_simp⟩) hHeld ?_
      (try simp only [Act.put])
      refine wpHT_take (i := 1) (v := .int .i64 k) rfl (by kernel_rfl) (by decide) (by kernel_rfl) (by kernel_rfl) (by kernel_rfl) (fun _ _ _ h => h) (Or.inl ⟨by rfl, by intro w hSw; (try dsimp only at hSw); go_simp⟩) hHeld ?_
      (try simp only [Act.put])
      refine wpHT_take (i := 3) (v := .agg #[.bool (frQ y).1.1, .slice A (frQ y).1.2.length cA, .bool (frQ y).2.1, .slice B (frQ y).2.2.length cB]) rfl (by kernel_rfl) (by decide) (by kernel_rfl) (by kernel_rfl) (by kernel_rfl) (fun _ _ _ h => h) (Or.inl ⟨by rfl, by intro w hSw; (try dsimp only at hSw); go_simp⟩) hHeld ?_
      (try simp only [Act.put])
      refine wpHT_take (i := 4) (v := .agg #[.bool (frQ p).1.1, .slice A1 (frQ p).1.2.length c1, .bool (frQ p).2.1, .slice B1 (frQ p).2.2.length d1]) rfl (by kernel_rfl) (by decide) (by kernel_rfl) (by kernel_rfl) (by kernel_rfl) (fun _ _ _ h => h) (Or.inl ⟨by rfl, by intro w hSw; (try dsimp only at hSw); go_simp⟩) hHeld ?_
      (try simp only [Act.put])
      refine wpHT_take (i := 7) (v := .agg #[.bool (frQ q).1.1, .slice A2 (frQ q).1.2.length c2, .bool (frQ q).2.1, .slice B2 (frQ q).2.2.length d2]) rfl (by kernel_rfl) (by decide) (by kernel_rfl) (by kernel_rfl) (by kernel_rfl) (fun _ _ _ h => h) (Or.inl ⟨by rfl, by intro w hSw; (try dsimp only at hSw); go_simp⟩) hHeld ?_
      (try simp only [Act.put])
      refine wpHT_take (i := 9) (v := .agg #[.bool (frQ p).1.1, .slice A1 (frQ p).1.2.length c1, .bool (frQ p).2.1, .slice B1 (frQ p).2.2.length d1]) rfl (by kernel_rfl) (by decide) (by kernel_rfl) (by kernel_rfl) (by kernel_rfl) (fun _ _ _ h => h) (Or.inl ⟨by rfl, by intro w hSw; (try dsimp only at hSw); go_simp⟩) hHeld ?_
      (try simp only [Act.put])
      refine wpHT_ready (rs := [2]) (by kernel_rfl) (by simp) (HTready.cons rfl (by decide) (fun K hK => ?_) HTready.nil)
      go_simp
      (with_reducible refine (hCk.out wr.drew I0.out.hb).mono ?_)
      rintro e x1 ⟨A3, c3, B3, d3, rfl, hs3, ht3, hb⟩
      (try dsimp only at hs3)
      (try dsimp only at ht3)
      (try dsimp only)
      have I1 := Lib.hid (I0.out.call hb)
      have S3x1 := Lib.hid hs3
      have T3x1 := Lib.hid ht3
      clear hb hs3 ht3
      (try go_wp2_with fail)
      refine hK.out _ _ I1.out.held (fun hHeld2 => ?_)
      clear hK K hHeld2
      (try simp only [Act.put])
      refine wpHT_ready (rs := [5]) (by kernel_rfl) (by simp) (HTready.cons rfl (by decide) (fun K hK => ?_) HTready.nil)
      go_simp
      (with_reducible refine (emul_q HY.out FP.out (by omega) x1 A B A1 B1 cA cB c1 d1 I1.out.x.s I1.out.x.t I1.out.u.s I1.out.u.t).mono ?_)
      rintro e x2 ⟨A4, c4, B4, d4, rfl, hs4, ht4, hb⟩
      (try dsimp only at hs4)
      (try dsimp only at ht4)
      (try dsimp only)
      have I2 := Lib.hid (I1.out.call hb)
      have S3x2 := Lib.hid (S3x1.out.below hb)
      have T3x2 := Lib.hid (T3x1.out.below hb)
      have S4x2 := Lib.hid hs4
      have T4x2 := Lib.hid ht4
      clear hb hs4 ht4
      (try go_wp2_with fail)
      refine hK.out _ _ I2.out.held (fun hHeld2 => ?_)
      clear hK K hHeld2
      (try simp only [Act.put])
      refine wpHT_ready (rs := [6]) (by kernel_rfl) (by simp) (HTready.cons rfl (by decide) (fun K hK => ?_) HTready.nil)
      go_simp
      (with_reducible refine (eadd_q FC.out F1.out (by omega) x2 A3 B3 A4 B4 c3 d3 c4 d4 S3x2.out T3x2.out S4x2.out T4x2.out).mono ?_)
      rintro e x3 ⟨A5, c5, B5, d5, rfl, hs5, ht5, hb⟩
      (try dsimp only at hs5)
      (try dsimp only at ht5)
      (try dsimp only)
      have I3 := Lib.hid (I2.out.call hb)
      have S5x3 := Lib.hid hs5
      have T5x3 := Lib.hid ht5
      clear hb hs5 ht5
      (try go_wp2_with fail)
      refine hK.out _ _ I3.out.held (fun hHeld2 => ?_)
      clear hK K hHeld2
      (try simp only [Act.put])
      refine wpHT_ready (rs := [8]) (by kernel_rfl) (by simp) (HTready.cons rfl (by decide) (fun K hK => ?_) HTready.nil)
      go_simp
      (with_reducible refine (esub_q F2.out FQ.out (by omega) x3 A5 B5 A2 B2 c5 d5 c2 d2 S5x3.out T5x3.out I3.out.v.s I3.out.v.t).mono ?_)
      rintro e x4 ⟨A6, c6, B6, d6, rfl, hs6, ht6, hb⟩
      (try dsimp only at hs6)
      (try dsimp only at ht6)
      (try dsimp only)
      have I4 := Lib.hid (I3.out.call hb)
      have S6x4 := Lib.hid hs6
      have T6x4 := Lib.hid ht6
      clear hb hs6 ht6
      (try go_wp2_with fail)
      refine hK.out _ _ I4.out.held (fun hHeld2 => ?_)
      clear hK K hHeld2
      (try simp only [Act.put])
      refine ⟨by kernel_rfl, ?_⟩
      obtain ⟨qx0, qx1, qx2, qx3, qu0, qu1, qu2, qu3, qv0, qv1, qv2, qv3, qfu0, qfu1, qfu2, qfu3, qfv0, qfv1, qfv2, qfv3⟩ := I4.out.cells
      simp only [List.drop_succ_cons, List.drop_zero]
      go_wp2_with fail
      go_roundw
      case rel => exact ⟨k - 1, A6, c6, B6, d6, A1, c1, B1, d1, by omega, by go_num, by rw [E1.out, E2.out]; exact I4.out.step S6x4.out T6x4.out⟩
      case measure => simp [intOf]; omega
    · obtain rfl : k = 0 := by omega
      have I1 : Hid (CL w wr y (clen c y n (n - 1)).1 (clen c y n (n - 1)).2 A cA B cB A1 c1 B1 d1 A2 c2 B2 d2) := I.out
      clear I HF
      generalize (clen c y n (n - 1)).1 = p at *
      generalize (clen c y n (n - 1)).2 = q at *
      go_upto_region 6 with fail
      obtain ⟨qx0, qx1, qx2, qx3, qu0, qu1, qu2, qu3, qv0, qv1, qv2, qv3, qfu0, qfu1, qfu2, qfu3, qfv0, qfv1, qfv2, qfv3⟩ := I1.out.cells
      go_region
      all_goals go_wp2
      all_goals exact bodyPost_ret (v := .tuple #[.agg #[.bool (frQ p).1.1, .slice A1 (frQ p).1.2.length c1, .bool (frQ p).2.1, .slice B1 (frQ p).2.2.length d1], .agg #[.bool (frQ q).1.1, .slice A2 (frQ q).1.2.length c2, .bool (frQ q).2.1, .slice B2 (frQ q).2.2.length d2]]) (by simp [results, Try.results36, go_sem, qu0, qu1, qu2, qu3, qv0, qv1, qv2, qv3]) rfl I1.out.same.drew.res

set_option maxRecDepth 100000 in
set_option maxHeartbeats 8000000 in
theorem clen_s (n : Nat) (hn0 : 0 < n) (hn : n ≤ 1000) (gb : Nat) (c : Nat → Rat) (y : Rat) (w : World) (A B : Option Addr) (cA cB : Nat) (sy : Sl w A (frQ y).1.2 cA) (ty : Sl w B (frQ y).2.2 cB)
    (hC : ∀ (k : Nat) V, Below w.heap.size w V → 0 < k → k < n → Calls Try.prog 37 #[.int .i64 k, .pointer (some ⟨gb, 0, none⟩)] V (FRes1 (frQ (c k)) V)) (hc2 : ∀ k, 0 < k → k < n → Few 2 (c k)) (hy : Few 5 y)
    (hF : ∀ j, j ≤ n - 1 → Few 400 (clen c y n j).1 ∧ Few 400 (clen c y n j).2) :
    Calls Try.prog 36 #[.int .i64 n, .func (.func 37) #[] #[.pointer (some ⟨gb, 0, none⟩)], .agg #[.bool (frQ y).1.1, .slice A (frQ y).1.2.length cA, .bool (frQ y).2.1, .slice B (frQ y).2.2.length cB]] w (F2Res (clen c y n (n - 1)).1 (clen c y n (n - 1)).2 w) := by
  have HC := Lib.hid hC
  have HC2 := Lib.hid hc2
  have HY := Lib.hid hy
  have HF := Lib.hid hF
  have Sy := Lib.hid sy
  have Ty := Lib.hid ty
  have hW : Hid (∀ V, Calls Try.prog 35 #[.int .i64 0] V (FRes1 (frQ 0) V)) := fun V => by have h := ewhole_q 0 (by omega) (by omega) V; rwa [Rat.intCast_zero] at h
  clear hC hc2 hy hF sy ty
  go_enter Try.func36, Try.ntmps36
  go_wp2_with (fail)
  generalize hwz : ((w.alloc (.cells #[.bool (frQ y).1.1, .slice A (frQ y).1.2.length cA, .bool (frQ y).2.1, .slice B (frQ y).2.2.length cB] 59)).alloc (.cells #[.bool false, .slice none 0 0, .bool false, .slice none 0 0] 59)).alloc (.cells #[.bool false, .slice none 0 0, .bool false, .slice none 0 0] 59) = wz at *
  have Kx : Hid (BxQ wz w.heap.size y A cA B cB) := by rw [← hwz]; exact ((BxQ.fresh rfl Sy.out Ty.out).alloc _).alloc _
  have Ku : Hid (Cf wz (w.heap.size + 1) false none 0 0 false none 0 0) := by rw [← hwz]; exact (Cf.fresh (by simp) _ _ _ _ _ _ _ _ _).keep (blw1 _ _)
  have Fu : Hid (Ff wz (w.heap.size + 1)) := by rw [← hwz]; exact (Ff.fresh (by simp) _ _).keep (Cf.fresh (by simp) _ _ _ _ _ _ _ _ _) (blw1 _ _)
  have Kv : Hid (Cf wz (w.heap.size + 2) false none 0 0 false none 0 0) := by rw [← hwz]; exact Cf.fresh (by simp) _ _ _ _ _ _ _ _ _
  have Fv : Hid (Ff wz (w.heap.size + 2)) := by rw [← hwz]; exact Ff.fresh (by simp) _ _
  have HB : Hid (Below w.heap.size w wz) := by rw [← hwz]; exact below_mono (below_mono (blw1 _ _) (blw1 _ _)) (blw1 _ _)
  clear hwz Sy Ty
  refine (hW.out _).mono ?_
  rintro e w1 ⟨A1, c1, B1, d1, rfl, hs1, ht1, hb⟩
  (try dsimp only at hs1 ht1)
  (try dsimp only)
  replace Fu := Lib.hid (Fu.out.keep Ku.out hb)
  replace Fv := Lib.hid (Fv.out.keep Kv.out hb)
  replace Kx := Lib.hid (Kx.out.keep hb)
  replace Ku := Lib.hid (Ku.out.keep hb)
  replace Kv := Lib.hid (Kv.out.keep hb)
  replace HB := Lib.hid (below_mono HB.out hb)
  have S1 := Lib.hid hs1
  have T1 := Lib.hid ht1
  clear hb hs1 ht1
  go_wp2_with fail
  refine (hW.out _).mono ?_
  rintro e w2 ⟨A2, c2, B2, d2, rfl, hs2, ht2, hb⟩
  (try dsimp only at hs2 ht2)
  (try dsimp only)
  replace Fu := Lib.hid (Fu.out.keep Ku.out hb)
  replace Fv := Lib.hid (Fv.out.keep Kv.out hb)
  replace Kx := Lib.hid (Kx.out.keep hb)
  replace Ku := Lib.hid (Ku.out.keep hb)
  replace Kv := Lib.hid (Kv.out.keep hb)
  replace HB := Lib.hid (below_mono HB.out hb)
  replace S1 := Lib.hid (S1.out.below hb)
  replace T1 := Lib.hid (T1.out.below hb)
  have S2 := Lib.hid hs2
  have T2 := Lib.hid ht2
  clear hb hs2 ht2
  obtain ⟨qu0, qu1, qu2, qu3⟩ := Ku.out
  obtain ⟨qv0, qv1, qv2, qv3⟩ := Kv.out
  obtain ⟨fu0, fu1, fu2, fu3⟩ := Fu.out
  obtain ⟨fv0, fv1, fv2, fv3⟩ := Fv.out
  go_upto_region 2 with fail
  generalize hwy : ((((((((w2).setCell ⟨w.heap.size + 1, 0, none⟩ (.bool (frQ 0).1.1)).setCell ⟨w.heap.size + 1, 1, none⟩ (.slice A1 (frQ 0).1.2.length c1)).setCell ⟨w.heap.size + 1, 2, none⟩ (.bool (frQ 0).2.1)).setCell ⟨w.heap.size + 1, 3, none⟩ (.slice B1 (frQ 0).2.2.length d1)).setCell ⟨w.heap.size + 2, 0, none⟩ (.bool (frQ 0).1.1)).setCell ⟨w.heap.size + 2, 1, none⟩ (.slice A2 (frQ 0).1.2.length c2)).setCell ⟨w.heap.size + 2, 2, none⟩ (.bool (frQ 0).2.1)).setCell ⟨w.heap.size + 2, 3, none⟩ (.slice B2 (frQ 0).2.2.length d2) = wy at *
  have I0 : Hid (CL w wy y 0 0 A cA B cB A1 c1 B1 d1 A2 c2 B2 d2) := by rw [← hwy]; exact CL.init Kx.out Ku.out Fu.out Kv.out Fv.out HB.out S1.out T1.out S2.out T2.out
  clear hwy Kx Ku Fu Kv Fv HB S1 T1 S2 T2 qu0 qu1 qu2 qu3 qv0 qv1 qv2 qv3 fu0 fu1 fu2 fu3 fv0 fv1 fv2 fv3
  go_wp2
  go_loopw [8] (fun s8 wr => ∃ (k : Nat) (A1 : Option Addr) (c1 : Nat) (B1 : Option Addr) (d1 : Nat) (A2 : Option Addr) (c2 : Nat) (B2 : Option Addr) (d2 : Nat), k ≤ n - 1 ∧ s8 = .int .i64 k ∧ CL w wr y (clen c y n (n - 1 - k)).1 (clen c y n (n - 1 - k)).2 A cA B cB A1 c1 B1 d1 A2 c2 B2 d2) (fun v _ => (intOf v).toNat)
  case atStart => exact ⟨n - 1, A1, c1, B1, d1, A2, c2, B2, d2, Nat.le_refl _, by go_num, by rw [Nat.sub_self]; exact I0.out⟩
  case round =>
    obtain ⟨k, A1, c1, B1, d1, A2, c2, B2, d2, hk, rfl, hI⟩ := hrel
    have I := Lib.hid hI
    clear hI I0
    by_cases h0 : 0 < k
    · have hst := clen_step c y h0 hk
      obtain ⟨FP, FQ⟩ := HF.out (n - 1 - k) (by omega)
      have E1 : Hid ((clen c y n (n - 1 - (k - 1))).1 = c k + y * (clen c y n (n - 1 - k)).1 - (clen c y n (n - 1 - k)).2) := congrArg Prod.fst hst
      have E2 : Hid ((clen c y n (n - 1 - (k - 1))).2 = (clen c y n (n - 1 - k)).1) := congrArg Prod.snd hst
      clear hst
      generalize (clen c y n (n - 1 - k)).1 = p at *
      generalize (clen c y n (n - 1 - k)).2 = q at *
      have hCk : Hid (∀ V, Below w.heap.size w V → Calls Try.prog 37 #[.int .i64 k, .pointer (some ⟨gb, 0, none⟩)] V (FRes1 (frQ (c k)) V)) := fun V hb => HC.out k V hb h0 (by omega)
      have FC := HC2.out k h0 (by omega)
      generalize c k = ck at *
      have F1 := (q_mul HY.out FP (by omega)).2
      have F2 := (q_add FC F1 (by omega)).2
      replace FP := Lib.hid FP
      replace FQ := Lib.hid FQ
      replace FC := Lib.hid FC
      replace F1 := Lib.hid F1
      replace F2 := Lib.hid F2
      have t5 : decide ((0 : Int) < (k : Int)) = true := decide_eq_true (by omega)
      go_upto_region 5 with fail
      have I0 := Lib.hid (I.out.drew)
      obtain ⟨qx0, qx1, qx2, qx3, qu0, qu1, qu2, qu3, qv0, qv1, qv2, qv3, qfu0, qfu1, qfu2, qfu3, qfv0, qfv1, qfv2, qfv3⟩ := I.out.cells
      have J0 := Lib.hid I0.out.held
      refine wp_region_HT (S := fun w' => w'.cell? ⟨w.heap.size, 0, none⟩ = some (.bool (frQ y).1.1) ∧ w'.cell? ⟨w.heap.size, 1, none⟩ = some (.slice A (frQ y).1.2.length cA) ∧ w'.cell? ⟨w.heap.size, 2, none⟩ = some (.bool (frQ y).2.1) ∧ w'.cell? ⟨w.heap.size, 3, none⟩ = some (.slice B (frQ y).2.2.length cB) ∧ w'.cell? ⟨w.heap.size + 1, 0, none⟩ = some (.bool (frQ p).1.1) ∧ w'.cell? ⟨w.heap.size + 1, 1, none⟩ = some (.slice A1 (frQ p).1.2.length c1) ∧ w'.cell? ⟨w.heap.size + 1, 2, none⟩ = some (.bool (frQ p).2.1) ∧ w'.cell? ⟨w.heap.size + 1, 3, none⟩ = some (.slice B1 (frQ p).2.2.length d1) ∧ w'.cell? ⟨w.heap.size + 2, 0, none⟩ = some (.bool (frQ q).1.1) ∧ w'.cell? ⟨w.heap.size + 2, 1, none⟩ = some (.slice A2 (frQ q).1.2.length c2) ∧ w'.cell? ⟨w.heap.size + 2, 2, none⟩ = some (.bool (frQ q).2.1) ∧ w'.cell? ⟨w.heap.size + 2, 3, none⟩ = some (.slice B2 (frQ q).2.2.length d2)) 10 (by kernel_rfl) (by kernel_rfl) J0.out (fun hHeld => ?_)
      refine wpHT_take (i := 0) (v := .func (.func 37) #[] #[.pointer (some ⟨gb, 0, none⟩)]) rfl (by kernel_rfl) (by decide) (by kernel_rfl) (by kernel_rfl) (by kernel_rfl) (fun _ _ _ h => h) (Or.inl ⟨by rfl, by intro w hSw; (try dsimp only at hSw); go_simp⟩) hHeld ?_
      (try simp only [Act.put])
      refine wpHT_take (i := 1) (v := .int .i64 k) rfl (by kernel_rfl) (by decide) (by kernel_rfl) (by kernel_rfl) (by kernel_rfl) (fun _ _ _ h => h) (Or.inl ⟨by rfl, by intro w hSw; (try dsimp only at hSw); go_simp⟩) hHeld ?_
      (try simp only [Act.put])
      refine wpHT_take (i := 3) (v := .agg #[.bool (frQ y).1.1, .slice A (frQ y).1.2.length cA, .bool (frQ y).2.1, .slice B (frQ y).2.2.length cB]) rfl (by kernel_rfl) (by decide) (by kernel_rfl) (by kernel_rfl) (by kernel_rfl) (fun _ _ _ h => h) (Or.inl ⟨by rfl, by intro w hSw; (try dsimp only at hSw); go_simp⟩) hHeld ?_
      (try simp only [Act.put])
      refine wpHT_take (i := 4) (v := .agg #[.bool (frQ p).1.1, .slice A1 (frQ p).1.2.length c1, .bool (frQ p).2.1, .slice B1 (frQ p).2.2.length d1]) rfl (by kernel_rfl) (by decide) (by kernel_rfl) (by kernel_rfl) (by kernel_rfl) (fun _ _ _ h => h) (Or.inl ⟨by rfl, by intro w hSw; (try dsimp only at hSw); go_simp⟩) hHeld ?_
      (try simp only [Act.put])
      refine wpHT_take (i := 7) (v := .agg #[.bool (frQ q).1.1, .slice A2 (frQ q).1.2.length c2, .bool (frQ q).2.1, .slice B2 (frQ q).2.2.length d2]) rfl (by kernel_rfl) (by decide) (by kernel_rfl) (by kernel_rfl) (by kernel_rfl) (fun _ _ _ h => h) (Or.inl ⟨by rfl, by intro w hSw; (try dsimp only at hSw); go_simp⟩) hHeld ?_
      (try simp only [Act.put])
      refine wpHT_take (i := 9) (v := .agg #[.bool (frQ p).1.1, .slice A1 (frQ p).1.2.length c1, .bool (frQ p).2.1, .slice B1 (frQ p).2.2.length d1]) rfl (by kernel_rfl) (by decide) (by kernel_rfl) (by kernel_rfl) (by kernel_rfl) (fun _ _ _ h => h) (Or.inl ⟨by rfl, by intro w hSw; (try dsimp only at hSw); go_simp⟩) hHeld ?_
      (try simp only [Act.put])
      refine wpHT_ready (rs := [2]) (by kernel_rfl) (by simp) (HTready.cons rfl (by decide) (fun K hK => ?_) HTready.nil)
      go_simp
      (with_reducible refine (hCk.out wr.drew I0.out.hb).mono ?_)
      rintro e x1 ⟨A3, c3, B3, d3, rfl, hs3, ht3, hb⟩
      (try dsimp only at hs3)
      (try dsimp only at ht3)
      (try dsimp only)
      have I1 := Lib.hid (I0.out.call hb)
      have S3x1 := Lib.hid hs3
      have T3x1 := Lib.hid ht3
      clear hb hs3 ht3
      (try go_wp2_with fail)
      refine hK.out _ _ I1.out.held (fun hHeld2 => ?_)
      clear hK K hHeld2
      (try simp only [Act.put])
      refine wpHT_ready (rs := [5]) (by kernel_rfl) (by simp) (HTready.cons rfl (by decide) (fun K hK => ?_) HTready.nil)
      go_simp
      (with_reducible refine (emul_q HY.out FP.out (by omega) x1 A B A1 B1 cA cB c1 d1 I1.out.x.s I1.out.x.t I1.out.u.s I1.out.u.t).mono ?_)
      rintro e x2 ⟨A4, c4, B4, d4, rfl, hs4, ht4, hb⟩
      (try dsimp only at hs4)
      (try dsimp only at ht4)
      (try dsimp only)
      have I2 := Lib.hid (I1.out.call hb)
      have S3x2 := Lib.hid (S3x1.out.below hb)
      have T3x2 := Lib.hid (T3x1.out.below hb)
      have S4x2 := Lib.hid hs4
      have T4x2 := Lib.hid ht4
      clear hb hs4 ht4
      (try go_wp2_with fail)
      refine hK.out _ _ I2.out.held (fun hHeld2 => ?_)
      clear hK K hHeld2
      (try simp only [Act.put])
      refine wpHT_ready (rs := [6]) (by kernel_rfl) (by simp) (HTready.cons rfl (by decide) (fun K hK => ?_) HTready.nil)
      go_simp
      (with_reducible refine (eadd_q FC.out F1.out (by omega) x2 A3 B3 A4 B4 c3 d3 c4 d4 S3x2.out T3x2.out S4x2.out T4x2.out).mono ?_)
      rintro e x3 ⟨A5, c5, B5, d5, rfl, hs5, ht5, hb⟩
      (try dsimp only at hs5)
      (try dsimp only at ht5)
      (try dsimp only)
      have I3 := Lib.hid (I2.out.call hb)
      have S5x3 := Lib.hid hs5
      have T5x3 := Lib.hid ht5
      clear hb hs5 ht5
      (try go_wp2_with fail)
      refine hK.out _ _ I3.out.held (fun hHeld2 => ?_)
      clear hK K hHeld2
      (try simp only [Act.put])
      refine wpHT_ready (rs := [8]) (by kernel_rfl) (by simp) (HTready.cons rfl (by decide) (fun K hK => ?_) HTready.nil)
      go_simp
      (with_reducible refine (esub_q F2.out FQ.out (by omega) x3 A5 B5 A2 B2 c5 d5 c2 d2 S5x3.out T5x3.out I3.out.v.s I3.out.v.t).mono ?_)
      rintro e x4 ⟨A6, c6, B6, d6, rfl, hs6, ht6, hb⟩
      (try dsimp only at hs6)
      (try dsimp only at ht6)
      (try dsimp only)
      have I4 := Lib.hid (I3.out.call hb)
      have S6x4 := Lib.hid hs6
      have T6x4 := Lib.hid ht6
      clear hb hs6 ht6
      (try go_wp2_with fail)
      refine hK.out _ _ I4.out.held (fun hHeld2 => ?_)
      clear hK K hHeld2
      (try simp only [Act.put])
      refine ⟨by kernel_rfl, ?_⟩
      obtain ⟨qx0, qx1, qx2, qx3, qu0, qu1, qu2, qu3, qv0, qv1, qv2, qv3, qfu0, qfu1, qfu2, qfu3, qfv0, qfv1, qfv2, qfv3⟩ := I4.out.cells
      simp only [List.drop_succ_cons, List.drop_zero]
      go_wp2_with fail
      go_roundw
      case rel => exact ⟨k - 1, A6, c6, B6, d6, A1, c1, B1, d1, by omega, by go_num, by rw [E1.out, E2.out]; exact I4.out.step S6x4.out T6x4.out⟩
      case measure => simp [intOf]; omega
    · obtain rfl : k = 0 := by omega
      have I1 : Hid (CL w wr y (clen c y n (n - 1)).1 (clen c y n (n - 1)).2 A cA B cB A1 c1 B1 d1 A2 c2 B2 d2) := I.out
      clear I HF
      generalize (clen c y n (n - 1)).1 = p at *
      generalize (clen c y n (n - 1)).2 = q at *
      go_upto_region 6 with fail
      obtain ⟨qx0, qx1, qx2, qx3, qu0, qu1, qu2, qu3, qv0, qv1, qv2, qv3, qfu0, qfu1, qfu2, qfu3, qfv0, qfv1, qfv2, qfv3⟩ := I1.out.cells
      go_region
      all_goals go_wp2
      all_goals exact bodyPost_ret (v := .tuple #[.agg #[.bool (frQ p).1.1, .slice A1 (frQ p).1.2.length c1, .bool (frQ p).2.1, .slice B1 (frQ p).2.2.length d1], .agg #[.bool (frQ q).1.1, .slice A2 (frQ q).1.2.length c2, .bool (frQ q).2.1, .slice B2 (frQ q).2.2.length d2]]) (by simp [results, Try.results36, go_sem, qu0, qu1, qu2, qu3, qv0, qv1, qv2, qv3]) rfl I1.out.same.drew.res

end Go.Proofs.Ytghallnooijfhaa

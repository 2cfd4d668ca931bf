import Derived.Test.YtlekjkljajeodaaEphH
import Derived.Test.YtlekjkljajeodaaEphT
import Derived.Test.YtlekjkljajeodaaMg12
/- Walks: layer 23's law: small, point, alive. -/
namespace Go.Proofs.Ytlekjkljajeodaa
open Go.RowKit
attribute [local go_sem ↓] Go.wp_at_zero Go.wp_at_succ
/-- Whether two vectors are the same. -/
def eqV (v u : V6) : Bool := (v.l0 == u.l0 && v.h0 == u.h0) && ((v.l1 == u.l1 && v.h1 == u.h1) && (v.l2 == u.l2 && v.h2 == u.h2))

theorem eqV_iff (v u : V6) : eqV v u = true ↔ v = u := by
  cases v; cases u
  simp [eqV, and_assoc]

theorem eqV_self (v : V6) : eqV v v = true := (eqV_iff v v).2 rfl

theorem iv_eqlIn (d : Nat) (a b c e : Int) (W : World) : (Op.equalIn (d + 2) 36 (.agg #[.int .i64 a, .int .i64 b]) (.agg #[.int .i64 c, .int .i64 e])).run Try.prog W = .ok (a == c && b == e) W := by
  rw [run_equalIn_struct W (d + 1) 36 _ _ (by kernel_rfl) (by kernel_rfl)]
  unfold Program.fieldsOf
  rw [Try.underlying36]
  cases h1 : (a == c) <;> cases h2 : (b == e) <;> simp [Op.eqFields, go_sem, h1, h2]

set_option maxRecDepth 100000 in
theorem vec_eqlIn (v u : V6) (W : World) : (Op.equalIn 10000 38 (.agg #[.int .i64 v.l0, .int .i64 v.h0, .int .i64 v.l1, .int .i64 v.h1, .int .i64 v.l2, .int .i64 v.h2]) (.agg #[.int .i64 u.l0, .int .i64 u.h0, .int .i64 u.l1, .int .i64 u.h1, .int .i64 u.l2, .int .i64 u.h2])).run Try.prog W = .ok (eqV v u) W := by
  obtain ⟨a, b, c, d, e, f⟩ := v
  obtain ⟨g, h, i, j, k, l⟩ := u
  unfold Op.equalIn
  simp only [Sem.run_bind, run_underlying Try.underlying38, Result.andThen_ok]
  have hs : (sizeOf 36).run Try.prog W = .ok 2 W := by kernel_rfl
  have hp : ∀ (x y z u v r : Int) (n : Nat) (p q : Int), (n = 0 ∧ p = x ∧ q = y ∨ n = 2 ∧ p = z ∧ q = u ∨ n = 4 ∧ p = v ∧ q = r) → (part 36 #[.int .i64 x, .int .i64 y, .int .i64 z, .int .i64 u, .int .i64 v, .int .i64 r] n).run Try.prog W = .ok (.agg #[.int .i64 p, .int .i64 q]) W := by
    rintro x y z u v r n p q (⟨rfl, rfl, rfl⟩ | ⟨rfl, rfl, rfl⟩ | ⟨rfl, rfl, rfl⟩) <;> rfl
  rw [hs]
  simp only [Result.andThen_ok, Std.Legacy.Range.forIn_eq_forIn_range', Std.Legacy.Range.size]
  simp [List.range']
  rw [hp a b c d e f 0 a b (by simp)]
  simp only [Result.andThen_ok]
  rw [hp g h i j k l 0 g h (by simp)]
  simp only [Result.andThen_ok]
  rw [iv_eqlIn 9997]
  simp only [Result.andThen_ok]
  unfold eqV
  dsimp only
  cases (a == g && b == h) with
  | false => rfl
  | true =>
    rw [if_neg (by decide), hp a b c d e f 2 c d (by simp)]
    simp only [Result.andThen_ok]
    rw [hp g h i j k l 2 i j (by simp)]
    simp only [Result.andThen_ok]
    rw [iv_eqlIn 9997]
    simp only [Result.andThen_ok]
    cases (c == i && d == j) with
    | false => rfl
    | true =>
      rw [if_neg (by decide), hp a b c d e f 4 e f (by simp)]
      simp only [Result.andThen_ok]
      rw [hp g h i j k l 4 k l (by simp)]
      simp only [Result.andThen_ok]
      rw [iv_eqlIn 9997]
      simp only [Result.andThen_ok]
      cases (e == k && f == l) <;> rfl

def smS (a0 a1 a2 : Option Addr) : SG := ⟨0, 1000, a0, [5, 3], 2, a1, [0, 0, 4], 3, a2, [7], 1⟩

def smB (A1 a0 a1 a2 : Option Addr) : BG := ⟨[97], 3, 2, A1, [smS a0 a1 a2], 1⟩

theorem sm_chk (A1 a0 a1 a2 : Option Addr) : chkE [smB A1 a0 a1 a2] = 0 := by
  refine chkE_good (by show (1 : Nat) ≤ 12; decide) (fun b hb => by rw [List.mem_singleton] at hb; subst hb; rfl) ⟨fun k hk => ?_, fun k hk => ?_⟩
  · obtain rfl : k = 0 := by simpa using hk
    refine ⟨rfl, by show (0 : Int) ≤ 3; decide, by show (3 : Int) ≤ 1152921504606846976; decide, by show (0 : Int) ≤ 2; decide, by show (2 : Int) ≤ 1125899906842624; decide, by show 0 < 1; decide, fun j hj => ?_, fun j hj => by simp [smB] at hj⟩
    obtain rfl : j = 0 := by simpa [smB] using hj
    show segB (smS a0 a1 a2) = true
    simp [smS, segB, outB, listB]
  · obtain rfl : k = 0 := by simpa using hk
    rfl

theorem sm_gr (A1 a0 a1 a2 : Option Addr) : grE [smB A1 a0 a1 a2] = false := by rfl

theorem sm_pl (A1 a0 a1 a2 : Option Addr) : plE [smB A1 a0 a1 a2] 0 1000 = (⟨8, 8, 4, 4, 7, 7⟩, 0) ∧ plE [smB A1 a0 a1 a2] 0 500 = (⟨5, 5, -4, -4, 7, 7⟩, 0) ∧ spE [smB A1 a0 a1 a2] 0 500 = (⟨518400000, 518400000, 0, 0, 0, 0⟩, 0) := by
  have hc := sm_chk A1 a0 a1 a2
  have hg : getB [smB A1 a0 a1 a2] 0 = some (smB A1 a0 a1 a2) := rfl
  have s1 : segOf (smB A1 a0 a1 a2).ss 1000 = some (smS a0 a1 a2) := rfl
  have s2 : segOf (smB A1 a0 a1 a2).ss 500 = some (smS a0 a1 a2) := rfl
  have u1 : unS (vlQ [5, 3] (Rat.divInt 1000 1000)) = (8, 8, 0) := by kernel_rfl
  have u2 : unS (vlQ [0, 0, 4] (Rat.divInt 1000 1000)) = (4, 4, 0) := by kernel_rfl
  have u3 : unS (vlQ [7] (Rat.divInt 1000 1000)) = (7, 7, 0) := by kernel_rfl
  have v1 : unS (vlQ [5, 3] (Rat.divInt 0 1000)) = (5, 5, 0) := by kernel_rfl
  have v2 : unS (vlQ [0, 0, 4] (Rat.divInt 0 1000)) = (-4, -4, 0) := by kernel_rfl
  have v3 : unS (vlQ [7] (Rat.divInt 0 1000)) = (7, 7, 0) := by kernel_rfl
  have w1 : unS (spQ [5, 3] (Rat.divInt 0 1000) * Rat.divInt 172800000000 1000) = (518400000, 518400000, 0) := by kernel_rfl
  have w2 : unS (spQ [0, 0, 4] (Rat.divInt 0 1000) * Rat.divInt 172800000000 1000) = (0, 0, 0) := by kernel_rfl
  have w3 : unS (spQ [7] (Rat.divInt 0 1000) * Rat.divInt 172800000000 1000) = (0, 0, 0) := by kernel_rfl
  refine ⟨?_, ?_, ?_⟩
  · unfold plE lkE
    rw [if_pos hc, hg]
    simp only [s1]
    have : plV (smS a0 a1 a2) 1000 = ⟨(unS (vlQ [5, 3] (Rat.divInt 1000 1000))).1, (unS (vlQ [5, 3] (Rat.divInt 1000 1000))).2.1, (unS (vlQ [0, 0, 4] (Rat.divInt 1000 1000))).1, (unS (vlQ [0, 0, 4] (Rat.divInt 1000 1000))).2.1, (unS (vlQ [7] (Rat.divInt 1000 1000))).1, (unS (vlQ [7] (Rat.divInt 1000 1000))).2.1⟩ := rfl
    rw [this, u1, u2, u3]
  · unfold plE lkE
    rw [if_pos hc, hg]
    simp only [s2]
    have : plV (smS a0 a1 a2) 500 = ⟨(unS (vlQ [5, 3] (Rat.divInt 0 1000))).1, (unS (vlQ [5, 3] (Rat.divInt 0 1000))).2.1, (unS (vlQ [0, 0, 4] (Rat.divInt 0 1000))).1, (unS (vlQ [0, 0, 4] (Rat.divInt 0 1000))).2.1, (unS (vlQ [7] (Rat.divInt 0 1000))).1, (unS (vlQ [7] (Rat.divInt 0 1000))).2.1⟩ := rfl
    rw [this, v1, v2, v3]
  · unfold spE lkE
    rw [if_pos hc, hg]
    simp only [s2]
    have : spR (smS a0 a1 a2) 500 = allV (unS (spQ [5, 3] (Rat.divInt 0 1000) * Rat.divInt 172800000000 1000)) (unS (spQ [0, 0, 4] (Rat.divInt 0 1000) * Rat.divInt 172800000000 1000)) (unS (spQ [7] (Rat.divInt 0 1000) * Rat.divInt 172800000000 1000)) := rfl
    rw [this, w1, w2, w3]
    rfl

set_option maxRecDepth 100000 in
set_option maxHeartbeats 8000000 in
theorem point_any (n : Int) (w : World) : Calls Try.prog 10 #[.int .i64 n] w fun e w' => e = .returned (.agg #[.int .i64 n, .int .i64 n]) ∧ Below w.heap.size w w' := by
  go_enter Try.func10, Try.ntmps10
  go_wp2
  exact bodyPost_ret (v := .agg #[.int .i64 n, .int .i64 n]) (by simp [results, Try.results10, go_sem]) rfl ⟨rfl, blw1 _ _⟩

theorem sli_blk {w : World} {g : Nat} {t : TypeId} {l : List Int} (h : BlkV w g t (cI l).toArray) (hl : In64 l) (hn : l.length ≤ 17592186044416) : SlI w w.heap.size (some ⟨g, 0, none⟩) l l.length :=
  ⟨(RdV.of_blk h).here, hl, Nat.le_refl _, hn⟩

theorem sls_one {w : World} {g : Nat} {t : TypeId} {s : SG} (h : BlkV w g t s.cells.toArray) (ok : OkS w w.heap.size s) : SlS w w.heap.size (some ⟨g, 0, none⟩) [s] 1 :=
  ⟨by have := (RdV.of_blk h).here; simpa using this, fun x hx => by rw [List.mem_singleton] at hx; subst hx; exact ok, by simp, by simp⟩

theorem slb_one {w : World} {g : Nat} {t : TypeId} {b : BG} (h : BlkV w g t b.cells.toArray) (ok : OkB w w.heap.size b) : SlB w w.heap.size (some ⟨g, 0, none⟩) [b] 1 :=
  ⟨by have := (RdV.of_blk h).here; simpa using this, fun x hx => by rw [List.mem_singleton] at hx; subst hx; exact ok, by simp, by simp⟩

theorem in64_small {l : List Int} (h : l.all (fun x => decide (-1000 ≤ x) && decide (x ≤ 1000)) = true) : In64 l := fun x hx => by
  have := List.all_eq_true.1 h x hx
  simp only [Bool.and_eq_true, decide_eq_true_eq] at this
  omega

set_option maxRecDepth 100000 in
set_option maxHeartbeats 8000000 in
theorem small_any (w : World) : Calls Try.prog 15 #[] w fun e w' => ∃ A c A1 a0 a1 a2, e = .returned (.agg #[.slice A 1 c]) ∧ SlB w' w'.heap.size A [smB A1 a0 a1 a2] c ∧ Below w.heap.size w w' := by
  go_enter Try.func15, Try.ntmps15
  go_wp2
  refine bodyPost_ret (v := .agg #[.slice (some ⟨w.heap.size + 1 + 1 + 1 + 1 + 1 + 1, 0, none⟩) 1 1]) (by simp [results, Try.results15, go_sem]) rfl ?_
  generalize hW : ((((((w.alloc (.cells #[.slice (some ⟨w.heap.size + 1 + 1 + 1 + 1 + 1 + 1, 0, none⟩) 1 1] 24)).alloc _).alloc _).alloc _).alloc _).alloc _).alloc _ = W
  have b1 : BlkV W (w.heap.size + 1) 2 (cI [5, 3]).toArray := by rw [← hW]; exact (((((BlkV.fresh (by simp) _ _).alloc _).alloc _).alloc _).alloc _).alloc _
  have b2 : BlkV W (w.heap.size + 1 + 1) 2 (cI [0, 0, 4]).toArray := by rw [← hW]; exact ((((BlkV.fresh (by simp) _ _).alloc _).alloc _).alloc _).alloc _
  have b3 : BlkV W (w.heap.size + 1 + 1 + 1) 2 (cI [7]).toArray := by rw [← hW]; exact (((BlkV.fresh (by simp) _ _).alloc _).alloc _).alloc _
  have b5 : BlkV W (w.heap.size + 1 + 1 + 1 + 1 + 1) 31 (smS (some ⟨w.heap.size + 1, 0, none⟩) (some ⟨w.heap.size + 1 + 1, 0, none⟩) (some ⟨w.heap.size + 1 + 1 + 1, 0, none⟩)).cells.toArray := by rw [← hW]; exact (BlkV.fresh (by simp) _ _).alloc _
  have b6 : BlkV W (w.heap.size + 1 + 1 + 1 + 1 + 1 + 1) 34 (smB (some ⟨w.heap.size + 1 + 1 + 1 + 1 + 1, 0, none⟩) (some ⟨w.heap.size + 1, 0, none⟩) (some ⟨w.heap.size + 1 + 1, 0, none⟩) (some ⟨w.heap.size + 1 + 1 + 1, 0, none⟩)).cells.toArray := by rw [← hW]; exact BlkV.fresh (by simp) _ _
  have hb : Below w.heap.size w W := by rw [← hW]; exact below_mono (below_mono (below_mono (below_mono (below_mono (below_mono (blw1 _ _) (blw1 _ _)) (blw1 _ _)) (blw1 _ _)) (blw1 _ _)) (blw1 _ _)) (blw1 _ _)
  have ok : OkS W W.heap.size (smS (some ⟨w.heap.size + 1, 0, none⟩) (some ⟨w.heap.size + 1 + 1, 0, none⟩) (some ⟨w.heap.size + 1 + 1 + 1, 0, none⟩)) :=
    ⟨sli_blk b1 (in64_small rfl) (by simp [smS]), sli_blk b2 (in64_small rfl) (by simp [smS]), sli_blk b3 (in64_small rfl) (by simp [smS]), by simp [smS], by simp [smS], by simp [smS], by simp [smS]⟩
  exact ⟨_, 1, _, _, _, _, rfl, slb_one b6 ⟨sls_one b5 ok, by simp [smB], by simp [smB], by simp [smB], by simp [smB], by simp [smB]⟩, hb⟩

set_option maxRecDepth 100000 in
set_option maxHeartbeats 8000000 in
theorem alive_any (w : World) : Calls Try.prog 6 #[] w fun e w' => e = .returned (.bool true) ∧ Below w.heap.size w w' := by
  have B0 : Hid (Below w.heap.size w w) := Below.refl _ _
  go_enter Try.func6, Try.ntmps6
  go_wp2_with fail
  refine (small_any _).mono ?_
  rintro e u0 ⟨A, c, A1, a0, a1, a2, rfl, hs, hb⟩
  have HU := Lib.hid (below_mono B0.out hb)
  clear hb
  go_wp2_with fail
  refine (ePlace_any [smB A1 a0 a1 a2] A c u0.heap.size 0 1000 u0 hs (sm_gr _ _ _ _)).mono ?_
  rw [(sm_pl A1 a0 a1 a2).1]
  rintro e v0 ⟨rfl, hb⟩
  dsimp only
  have HV := Lib.hid (below_mono HU.out hb)
  clear hb hs HU
  go_upto_region 2 with fail
  generalize hw : v0.alloc (.cells #[.int .i64 8, .int .i64 8, .int .i64 4, .int .i64 4, .int .i64 7, .int .i64 7] 38) = x0 at *
  have B1 : Hid (Below w.heap.size w x0) := by rw [← hw]; exact below_mono HV.out (blw1 _ _)
  have KV0 : Hid (BlkV x0 v0.heap.size 38 #[.int .i64 8, .int .i64 8, .int .i64 4, .int .i64 4, .int .i64 7, .int .i64 7]) := by rw [← hw]; exact BlkV.fresh rfl _ _
  clear hw HV
  generalize v0.heap.size = g0 at *
  go_wp2_with fail
  refine (small_any _).mono ?_
  rintro e u1 ⟨A, c, A1, a0, a1, a2, rfl, hs, hb⟩
  have HU := Lib.hid (below_mono B1.out hb)
  replace KV0 := Lib.hid (KV0.out.keep hb)
  clear hb
  go_wp2_with fail
  refine (ePlace_any [smB A1 a0 a1 a2] A c u1.heap.size 0 500 u1 hs (sm_gr _ _ _ _)).mono ?_
  rw [(sm_pl A1 a0 a1 a2).2.1]
  rintro e v1 ⟨rfl, hb⟩
  dsimp only
  have HV := Lib.hid (below_mono HU.out hb)
  replace KV0 := Lib.hid (KV0.out.keep hb)
  clear hb hs HU
  go_upto_region 3 with fail
  generalize hw : v1.alloc (.cells #[.int .i64 5, .int .i64 5, .int .i64 (-4), .int .i64 (-4), .int .i64 7, .int .i64 7] 38) = x1 at *
  have B2 : Hid (Below w.heap.size w x1) := by rw [← hw]; exact below_mono HV.out (blw1 _ _)
  have KV1 : Hid (BlkV x1 v1.heap.size 38 #[.int .i64 5, .int .i64 5, .int .i64 (-4), .int .i64 (-4), .int .i64 7, .int .i64 7]) := by rw [← hw]; exact BlkV.fresh rfl _ _
  replace KV0 : Hid (BlkV x1 g0 38 #[.int .i64 8, .int .i64 8, .int .i64 4, .int .i64 4, .int .i64 7, .int .i64 7]) := by rw [← hw]; exact KV0.out.alloc _
  clear hw HV
  generalize v1.heap.size = g1 at *
  go_wp2_with fail
  refine (small_any _).mono ?_
  rintro e u2 ⟨A, c, A1, a0, a1, a2, rfl, hs, hb⟩
  have HU := Lib.hid (below_mono B2.out hb)
  replace KV0 := Lib.hid (KV0.out.keep hb)
  replace KV1 := Lib.hid (KV1.out.keep hb)
  clear hb
  go_wp2_with fail
  refine (eSpeed_any [smB A1 a0 a1 a2] A c u2.heap.size 0 500 u2 hs (sm_gr _ _ _ _)).mono ?_
  rw [(sm_pl A1 a0 a1 a2).2.2]
  rintro e v2 ⟨rfl, hb⟩
  dsimp only
  have HV := Lib.hid (below_mono HU.out hb)
  replace KV0 := Lib.hid (KV0.out.keep hb)
  replace KV1 := Lib.hid (KV1.out.keep hb)
  clear hb hs HU
  go_upto_region 4 with fail
  generalize hw : v2.alloc (.cells #[.int .i64 518400000, .int .i64 518400000, .int .i64 0, .int .i64 0, .int .i64 0, .int .i64 0] 38) = x2 at *
  have B3 : Hid (Below w.heap.size w x2) := by rw [← hw]; exact below_mono HV.out (blw1 _ _)
  have KV2 : Hid (BlkV x2 v2.heap.size 38 #[.int .i64 518400000, .int .i64 518400000, .int .i64 0, .int .i64 0, .int .i64 0, .int .i64 0]) := by rw [← hw]; exact BlkV.fresh rfl _ _
  replace KV0 : Hid (BlkV x2 g0 38 #[.int .i64 8, .int .i64 8, .int .i64 4, .int .i64 4, .int .i64 7, .int .i64 7]) := by rw [← hw]; exact KV0.out.alloc _
  replace KV1 : Hid (BlkV x2 g1 38 #[.int .i64 5, .int .i64 5, .int .i64 (-4), .int .i64 (-4), .int .i64 7, .int .i64 7]) := by rw [← hw]; exact KV1.out.alloc _
  clear hw HV
  generalize v2.heap.size = g2 at *
  have JS : Hid (∀ X, Below x2.heap.size x2 X → X.cell? ⟨g0, 0, none⟩ = some (.int .i64 8) ∧ X.cell? ⟨g0, 1, none⟩ = some (.int .i64 8) ∧ X.cell? ⟨g0, 2, none⟩ = some (.int .i64 4) ∧ X.cell? ⟨g0, 3, none⟩ = some (.int .i64 4) ∧ X.cell? ⟨g0, 4, none⟩ = some (.int .i64 7) ∧ X.cell? ⟨g0, 5, none⟩ = some (.int .i64 7) ∧ X.cell? ⟨g1, 0, none⟩ = some (.int .i64 5) ∧ X.cell? ⟨g1, 1, none⟩ = some (.int .i64 5) ∧ X.cell? ⟨g1, 2, none⟩ = some (.int .i64 (-4)) ∧ X.cell? ⟨g1, 3, none⟩ = some (.int .i64 (-4)) ∧ X.cell? ⟨g1, 4, none⟩ = some (.int .i64 7) ∧ X.cell? ⟨g1, 5, none⟩ = some (.int .i64 7) ∧ X.cell? ⟨g2, 0, none⟩ = some (.int .i64 518400000) ∧ X.cell? ⟨g2, 1, none⟩ = some (.int .i64 518400000) ∧ X.cell? ⟨g2, 2, none⟩ = some (.int .i64 0) ∧ X.cell? ⟨g2, 3, none⟩ = some (.int .i64 0) ∧ X.cell? ⟨g2, 4, none⟩ = some (.int .i64 0) ∧ X.cell? ⟨g2, 5, none⟩ = some (.int .i64 0)) := fun X h => ⟨(KV0.out.keep h).at_ 0 rfl, (KV0.out.keep h).at_ 1 rfl, (KV0.out.keep h).at_ 2 rfl, (KV0.out.keep h).at_ 3 rfl, (KV0.out.keep h).at_ 4 rfl, (KV0.out.keep h).at_ 5 rfl, (KV1.out.keep h).at_ 0 rfl, (KV1.out.keep h).at_ 1 rfl, (KV1.out.keep h).at_ 2 rfl, (KV1.out.keep h).at_ 3 rfl, (KV1.out.keep h).at_ 4 rfl, (KV1.out.keep h).at_ 5 rfl, (KV2.out.keep h).at_ 0 rfl, (KV2.out.keep h).at_ 1 rfl, (KV2.out.keep h).at_ 2 rfl, (KV2.out.keep h).at_ 3 rfl, (KV2.out.keep h).at_ 4 rfl, (KV2.out.keep h).at_ 5 rfl⟩
  have Y0 : Hid (Below x2.heap.size x2 x2.drew) := (Below.refl _ _).drew
  clear KV0 KV1 KV2
  have hq0 : ∀ W, (Op.equalIn 10000 38 (.agg #[.int .i64 8, .int .i64 8, .int .i64 4, .int .i64 4, .int .i64 7, .int .i64 7]) (.agg #[.int .i64 8, .int .i64 8, .int .i64 4, .int .i64 4, .int .i64 7, .int .i64 7])).run Try.prog W = .ok true W := fun W => by have h := vec_eqlIn ⟨8, 8, 4, 4, 7, 7⟩ ⟨8, 8, 4, 4, 7, 7⟩ W; rwa [eqV_self] at h
  have hq1 : ∀ W, (Op.equalIn 10000 38 (.agg #[.int .i64 5, .int .i64 5, .int .i64 (-4), .int .i64 (-4), .int .i64 7, .int .i64 7]) (.agg #[.int .i64 5, .int .i64 5, .int .i64 (-4), .int .i64 (-4), .int .i64 7, .int .i64 7])).run Try.prog W = .ok true W := fun W => by have h := vec_eqlIn ⟨5, 5, -4, -4, 7, 7⟩ ⟨5, 5, -4, -4, 7, 7⟩ W; rwa [eqV_self] at h
  have hq2 : ∀ W, (Op.equalIn 10000 38 (.agg #[.int .i64 518400000, .int .i64 518400000, .int .i64 0, .int .i64 0, .int .i64 0, .int .i64 0]) (.agg #[.int .i64 518400000, .int .i64 518400000, .int .i64 0, .int .i64 0, .int .i64 0, .int .i64 0])).run Try.prog W = .ok true W := fun W => by have h := vec_eqlIn ⟨518400000, 518400000, 0, 0, 0, 0⟩ ⟨518400000, 518400000, 0, 0, 0, 0⟩ W; rwa [eqV_self] at h
  refine wp_region_held_drew (S := fun w' => w'.cell? ⟨g0, 0, none⟩ = some (.int .i64 8) ∧ w'.cell? ⟨g0, 1, none⟩ = some (.int .i64 8) ∧ w'.cell? ⟨g0, 2, none⟩ = some (.int .i64 4) ∧ w'.cell? ⟨g0, 3, none⟩ = some (.int .i64 4) ∧ w'.cell? ⟨g0, 4, none⟩ = some (.int .i64 7) ∧ w'.cell? ⟨g0, 5, none⟩ = some (.int .i64 7) ∧ w'.cell? ⟨g1, 0, none⟩ = some (.int .i64 5) ∧ w'.cell? ⟨g1, 1, none⟩ = some (.int .i64 5) ∧ w'.cell? ⟨g1, 2, none⟩ = some (.int .i64 (-4)) ∧ w'.cell? ⟨g1, 3, none⟩ = some (.int .i64 (-4)) ∧ w'.cell? ⟨g1, 4, none⟩ = some (.int .i64 7) ∧ w'.cell? ⟨g1, 5, none⟩ = some (.int .i64 7) ∧ w'.cell? ⟨g2, 0, none⟩ = some (.int .i64 518400000) ∧ w'.cell? ⟨g2, 1, none⟩ = some (.int .i64 518400000) ∧ w'.cell? ⟨g2, 2, none⟩ = some (.int .i64 0) ∧ w'.cell? ⟨g2, 3, none⟩ = some (.int .i64 0) ∧ w'.cell? ⟨g2, 4, none⟩ = some (.int .i64 0) ∧ w'.cell? ⟨g2, 5, none⟩ = some (.int .i64 0)) (by kernel_rfl) (JS.out _ Y0.out) (fun hHeld => ?_)
  refine wpAnyH_take (i := 0) (v := .int .i64 0) rfl (by kernel_rfl) (by kernel_rfl) (by kernel_rfl) (fun _ _ _ h => h) (Or.inl ⟨by rfl, by intro w hSw; (try dsimp only at hSw); go_simp⟩) (by assumption) ?_
  (try simp only [Act.put, List.getElem_toArray, List.getElem_cons_zero, List.setIfInBounds_toArray, List.set_cons_zero, List.set_cons_succ])
  refine wpAnyH_take (i := 1) (v := .bool true) rfl (by kernel_rfl) (by kernel_rfl) (by kernel_rfl) (fun _ _ _ h => h) (Or.inl ⟨by rfl, by intro w hSw; (try dsimp only at hSw); go_simp⟩) (by assumption) ?_
  (try simp only [Act.put, List.getElem_toArray, List.getElem_cons_zero, List.getElem_cons_succ, List.setIfInBounds_toArray, List.set_cons_zero, List.set_cons_succ])
  refine wpAnyH_take (i := 2) (v := .bool true) rfl (by kernel_rfl) (by kernel_rfl) (by kernel_rfl) (fun _ _ _ h => h) (Or.inl ⟨by rfl, by intro w hSw; (try dsimp only at hSw); go_simp⟩) (by assumption) ?_
  (try simp only [Act.put, List.getElem_toArray, List.getElem_cons_zero, List.getElem_cons_succ, List.setIfInBounds_toArray, List.set_cons_zero, List.set_cons_succ])
  refine wpAnyH_take (i := 3) (v := .agg #[.int .i64 8, .int .i64 8, .int .i64 4, .int .i64 4, .int .i64 7, .int .i64 7]) rfl (by kernel_rfl) (by kernel_rfl) (by kernel_rfl) (fun _ _ _ h => h) (Or.inl ⟨by rfl, by intro w hSw; (try dsimp only at hSw); go_simp⟩) (by assumption) ?_
  (try simp only [Act.put, List.getElem_toArray, List.getElem_cons_zero, List.getElem_cons_succ, List.setIfInBounds_toArray, List.set_cons_zero, List.set_cons_succ])
  refine wpAnyH_ready (rs := [4]) (by kernel_rfl) (by simp) ?_
  refine AllReadyH.cons rfl (fun K hK => ?_) AllReadyH.nil
  go_simp
  (with_reducible refine (point_any 8 _).mono ?_)
  rintro e y1 ⟨rfl, hb⟩
  (try dsimp only)
  have Y1 := Lib.hid (below_mono Y0.out hb)
  clear hb
  (try go_wp2_with fail)
  refine hK.out _ _ (JS.out _ Y1.out) (fun hHeld2 => ?_)
  clear hK K hHeld
  have hHeld := hHeld2
  clear hHeld2
  (try simp only [Act.put, List.getElem_toArray, List.getElem_cons_zero, List.getElem_cons_succ, List.setIfInBounds_toArray, List.set_cons_zero, List.set_cons_succ])
  refine wpAnyH_ready (rs := [5]) (by kernel_rfl) (by simp) ?_
  refine AllReadyH.cons rfl (fun K hK => ?_) AllReadyH.nil
  go_simp
  (with_reducible refine (point_any 4 _).mono ?_)
  rintro e y2 ⟨rfl, hb⟩
  (try dsimp only)
  have Y2 := Lib.hid (below_mono Y1.out hb)
  clear hb
  (try go_wp2_with fail)
  refine hK.out _ _ (JS.out _ Y2.out) (fun hHeld2 => ?_)
  clear hK K hHeld
  have hHeld := hHeld2
  clear hHeld2
  (try simp only [Act.put, List.getElem_toArray, List.getElem_cons_zero, List.getElem_cons_succ, List.setIfInBounds_toArray, List.set_cons_zero, List.set_cons_succ])
  refine wpAnyH_ready (rs := [6]) (by kernel_rfl) (by simp) ?_
  refine AllReadyH.cons rfl (fun K hK => ?_) AllReadyH.nil
  go_simp
  (with_reducible refine (point_any 7 _).mono ?_)
  rintro e y3 ⟨rfl, hb⟩
  (try dsimp only)
  have Y3 := Lib.hid (below_mono Y2.out hb)
  clear hb
  (try go_wp2_with fail)
  refine hK.out _ _ (JS.out _ Y3.out) (fun hHeld2 => ?_)
  clear hK K hHeld
  have hHeld := hHeld2
  clear hHeld2
  (try simp only [Act.put, List.getElem_toArray, List.getElem_cons_zero, List.getElem_cons_succ, List.setIfInBounds_toArray, List.set_cons_zero, List.set_cons_succ])
  refine wpAnyH_take (i := 7) (v := .agg #[.int .i64 8, .int .i64 8, .int .i64 4, .int .i64 4, .int .i64 7, .int .i64 7]) rfl (by kernel_rfl) (by kernel_rfl) (by kernel_rfl) (fun _ _ _ h => h) (Or.inl ⟨by rfl, by intro w hSw; (try dsimp only at hSw); go_simp⟩) (by assumption) ?_
  (try simp only [Act.put, List.getElem_toArray, List.getElem_cons_zero, List.getElem_cons_succ, List.setIfInBounds_toArray, List.set_cons_zero, List.set_cons_succ])
  refine wpAnyH_take (i := 8) (v := .bool true) rfl (by kernel_rfl) (by kernel_rfl) (by kernel_rfl) (fun _ _ _ h => h) (Or.inl ⟨by rfl, by intro w hSw; (try dsimp only at hSw); go_simp⟩) (by assumption) ?_
  (try simp only [Act.put, List.getElem_toArray, List.getElem_cons_zero, List.getElem_cons_succ, List.setIfInBounds_toArray, List.set_cons_zero, List.set_cons_succ])
  refine wpAnyH_take (i := 9) (v := .bool true) rfl (by kernel_rfl) (by kernel_rfl) (by kernel_rfl) (fun _ _ _ h => h) (Or.inl ⟨by rfl, by intro w hSw; (try dsimp only at hSw); go_simp⟩) (by assumption) ?_
  (try simp only [Act.put, List.getElem_toArray, List.getElem_cons_zero, List.getElem_cons_succ, List.setIfInBounds_toArray, List.set_cons_zero, List.set_cons_succ])
  refine wpAnyH_take (i := 10) (v := .bool true) rfl (by kernel_rfl) (by kernel_rfl) (by kernel_rfl) (fun _ _ _ h => h) (Or.inl ⟨by rfl, by intro w hSw; (try dsimp only at hSw); go_simp⟩) (by assumption) ?_
  (try simp only [Act.put, List.getElem_toArray, List.getElem_cons_zero, List.getElem_cons_succ, List.setIfInBounds_toArray, List.set_cons_zero, List.set_cons_succ])
  refine wpAnyH_take (i := 11) (v := .int .i64 0) rfl (by kernel_rfl) (by kernel_rfl) (by kernel_rfl) (fun _ _ _ h => h) (Or.inl ⟨by rfl, by intro w hSw; (try dsimp only at hSw); go_simp⟩) (by assumption) ?_
  (try simp only [Act.put, List.getElem_toArray, List.getElem_cons_zero, List.getElem_cons_succ, List.setIfInBounds_toArray, List.set_cons_zero, List.set_cons_succ])
  refine wpAnyH_take (i := 12) (v := .bool true) rfl (by kernel_rfl) (by kernel_rfl) (by kernel_rfl) (fun _ _ _ h => h) (Or.inl ⟨by rfl, by intro w hSw; (try dsimp only at hSw); go_simp⟩) (by assumption) ?_
  (try simp only [Act.put, List.getElem_toArray, List.getElem_cons_zero, List.getElem_cons_succ, List.setIfInBounds_toArray, List.set_cons_zero, List.set_cons_succ])
  refine wpAnyH_take (i := 13) (v := .bool true) rfl (by kernel_rfl) (by kernel_rfl) (by kernel_rfl) (fun _ _ _ h => h) (Or.inl ⟨by rfl, by intro w hSw; (try dsimp only at hSw); go_simp⟩) (by assumption) ?_
  (try simp only [Act.put, List.getElem_toArray, List.getElem_cons_zero, List.getElem_cons_succ, List.setIfInBounds_toArray, List.set_cons_zero, List.set_cons_succ])
  refine wpAnyH_take (i := 14) (v := .bool true) rfl (by kernel_rfl) (by kernel_rfl) (by kernel_rfl) (fun _ _ _ h => h) (Or.inl ⟨by rfl, by intro w hSw; (try dsimp only at hSw); go_simp⟩) (by assumption) ?_
  (try simp only [Act.put, List.getElem_toArray, List.getElem_cons_zero, List.getElem_cons_succ, List.setIfInBounds_toArray, List.set_cons_zero, List.set_cons_succ])
  refine wpAnyH_take (i := 15) (v := .agg #[.int .i64 5, .int .i64 5, .int .i64 (-4), .int .i64 (-4), .int .i64 7, .int .i64 7]) rfl (by kernel_rfl) (by kernel_rfl) (by kernel_rfl) (fun _ _ _ h => h) (Or.inl ⟨by rfl, by intro w hSw; (try dsimp only at hSw); go_simp⟩) (by assumption) ?_
  (try simp only [Act.put, List.getElem_toArray, List.getElem_cons_zero, List.getElem_cons_succ, List.setIfInBounds_toArray, List.set_cons_zero, List.set_cons_succ])
  refine wpAnyH_ready (rs := [16]) (by kernel_rfl) (by simp) ?_
  refine AllReadyH.cons rfl (fun K hK => ?_) AllReadyH.nil
  go_simp
  (with_reducible refine (point_any 5 _).mono ?_)
  rintro e y4 ⟨rfl, hb⟩
  (try dsimp only)
  have Y4 := Lib.hid (below_mono Y3.out hb)
  clear hb
  (try go_wp2_with fail)
  refine hK.out _ _ (JS.out _ Y4.out) (fun hHeld2 => ?_)
  clear hK K hHeld
  have hHeld := hHeld2
  clear hHeld2
  (try simp only [Act.put, List.getElem_toArray, List.getElem_cons_zero, List.getElem_cons_succ, List.setIfInBounds_toArray, List.set_cons_zero, List.set_cons_succ])
  refine wpAnyH_ready (rs := [17]) (by kernel_rfl) (by simp) ?_
  refine AllReadyH.cons rfl (fun K hK => ?_) AllReadyH.nil
  go_simp
  (with_reducible refine (point_any (-4) _).mono ?_)
  rintro e y5 ⟨rfl, hb⟩
  (try dsimp only)
  have Y5 := Lib.hid (below_mono Y4.out hb)
  clear hb
  (try go_wp2_with fail)
  refine hK.out _ _ (JS.out _ Y5.out) (fun hHeld2 => ?_)
  clear hK K hHeld
  have hHeld := hHeld2
  clear hHeld2
  (try simp only [Act.put, List.getElem_toArray, List.getElem_cons_zero, List.getElem_cons_succ, List.setIfInBounds_toArray, List.set_cons_zero, List.set_cons_succ])
  refine wpAnyH_ready (rs := [18]) (by kernel_rfl) (by simp) ?_
  refine AllReadyH.cons rfl (fun K hK => ?_) AllReadyH.nil
  go_simp
  (with_reducible refine (point_any 7 _).mono ?_)
  rintro e y6 ⟨rfl, hb⟩
  (try dsimp only)
  have Y6 := Lib.hid (below_mono Y5.out hb)
  clear hb
  (try go_wp2_with fail)
  refine hK.out _ _ (JS.out _ Y6.out) (fun hHeld2 => ?_)
  clear hK K hHeld
  have hHeld := hHeld2
  clear hHeld2
  (try simp only [Act.put, List.getElem_toArray, List.getElem_cons_zero, List.getElem_cons_succ, List.setIfInBounds_toArray, List.set_cons_zero, List.set_cons_succ])
  refine wpAnyH_take (i := 19) (v := .agg #[.int .i64 5, .int .i64 5, .int .i64 (-4), .int .i64 (-4), .int .i64 7, .int .i64 7]) rfl (by kernel_rfl) (by kernel_rfl) (by kernel_rfl) (fun _ _ _ h => h) (Or.inl ⟨by rfl, by intro w hSw; (try dsimp only at hSw); go_simp⟩) (by assumption) ?_
  (try simp only [Act.put, List.getElem_toArray, List.getElem_cons_zero, List.getElem_cons_succ, List.setIfInBounds_toArray, List.set_cons_zero, List.set_cons_succ])
  refine wpAnyH_take (i := 20) (v := .bool true) rfl (by kernel_rfl) (by kernel_rfl) (by kernel_rfl) (fun _ _ _ h => h) (Or.inl ⟨by rfl, by intro w hSw; (try dsimp only at hSw); go_simp⟩) (by assumption) ?_
  (try simp only [Act.put, List.getElem_toArray, List.getElem_cons_zero, List.getElem_cons_succ, List.setIfInBounds_toArray, List.set_cons_zero, List.set_cons_succ])
  refine wpAnyH_take (i := 21) (v := .bool true) rfl (by kernel_rfl) (by kernel_rfl) (by kernel_rfl) (fun _ _ _ h => h) (Or.inl ⟨by rfl, by intro w hSw; (try dsimp only at hSw); go_simp⟩) (by assumption) ?_
  (try simp only [Act.put, List.getElem_toArray, List.getElem_cons_zero, List.getElem_cons_succ, List.setIfInBounds_toArray, List.set_cons_zero, List.set_cons_succ])
  refine wpAnyH_take (i := 22) (v := .bool true) rfl (by kernel_rfl) (by kernel_rfl) (by kernel_rfl) (fun _ _ _ h => h) (Or.inl ⟨by rfl, by intro w hSw; (try dsimp only at hSw); go_simp⟩) (by assumption) ?_
  (try simp only [Act.put, List.getElem_toArray, List.getElem_cons_zero, List.getElem_cons_succ, List.setIfInBounds_toArray, List.set_cons_zero, List.set_cons_succ])
  refine wpAnyH_take (i := 23) (v := .int .i64 0) rfl (by kernel_rfl) (by kernel_rfl) (by kernel_rfl) (fun _ _ _ h => h) (Or.inl ⟨by rfl, by intro w hSw; (try dsimp only at hSw); go_simp⟩) (by assumption) ?_
  (try simp only [Act.put, List.getElem_toArray, List.getElem_cons_zero, List.getElem_cons_succ, List.setIfInBounds_toArray, List.set_cons_zero, List.set_cons_succ])
  refine wpAnyH_take (i := 24) (v := .bool true) rfl (by kernel_rfl) (by kernel_rfl) (by kernel_rfl) (fun _ _ _ h => h) (Or.inl ⟨by rfl, by intro w hSw; (try dsimp only at hSw); go_simp⟩) (by assumption) ?_
  (try simp only [Act.put, List.getElem_toArray, List.getElem_cons_zero, List.getElem_cons_succ, List.setIfInBounds_toArray, List.set_cons_zero, List.set_cons_succ])
  refine wpAnyH_take (i := 25) (v := .bool true) rfl (by kernel_rfl) (by kernel_rfl) (by kernel_rfl) (fun _ _ _ h => h) (Or.inl ⟨by rfl, by intro w hSw; (try dsimp only at hSw); go_simp⟩) (by assumption) ?_
  (try simp only [Act.put, List.getElem_toArray, List.getElem_cons_zero, List.getElem_cons_succ, List.setIfInBounds_toArray, List.set_cons_zero, List.set_cons_succ])
  refine wpAnyH_take (i := 26) (v := .bool true) rfl (by kernel_rfl) (by kernel_rfl) (by kernel_rfl) (fun _ _ _ h => h) (Or.inl ⟨by rfl, by intro w hSw; (try dsimp only at hSw); go_simp⟩) (by assumption) ?_
  (try simp only [Act.put, List.getElem_toArray, List.getElem_cons_zero, List.getElem_cons_succ, List.setIfInBounds_toArray, List.set_cons_zero, List.set_cons_succ])
  refine wpAnyH_take (i := 27) (v := .agg #[.int .i64 518400000, .int .i64 518400000, .int .i64 0, .int .i64 0, .int .i64 0, .int .i64 0]) rfl (by kernel_rfl) (by kernel_rfl) (by kernel_rfl) (fun _ _ _ h => h) (Or.inl ⟨by rfl, by intro w hSw; (try dsimp only at hSw); go_simp⟩) (by assumption) ?_
  (try simp only [Act.put, List.getElem_toArray, List.getElem_cons_zero, List.getElem_cons_succ, List.setIfInBounds_toArray, List.set_cons_zero, List.set_cons_succ])
  refine wpAnyH_ready (rs := [28]) (by kernel_rfl) (by simp) ?_
  refine AllReadyH.cons rfl (fun K hK => ?_) AllReadyH.nil
  go_simp
  (with_reducible refine (point_any 518400000 _).mono ?_)
  rintro e y7 ⟨rfl, hb⟩
  (try dsimp only)
  have Y7 := Lib.hid (below_mono Y6.out hb)
  clear hb
  (try go_wp2_with fail)
  refine hK.out _ _ (JS.out _ Y7.out) (fun hHeld2 => ?_)
  clear hK K hHeld
  have hHeld := hHeld2
  clear hHeld2
  (try simp only [Act.put, List.getElem_toArray, List.getElem_cons_zero, List.getElem_cons_succ, List.setIfInBounds_toArray, List.set_cons_zero, List.set_cons_succ])
  refine wpAnyH_ready (rs := [29]) (by kernel_rfl) (by simp) ?_
  refine AllReadyH.cons rfl (fun K hK => ?_) AllReadyH.nil
  go_simp
  (with_reducible refine (point_any 0 _).mono ?_)
  rintro e y8 ⟨rfl, hb⟩
  (try dsimp only)
  have Y8 := Lib.hid (below_mono Y7.out hb)
  clear hb
  (try go_wp2_with fail)
  refine hK.out _ _ (JS.out _ Y8.out) (fun hHeld2 => ?_)
  clear hK K hHeld
  have hHeld := hHeld2
  clear hHeld2
  (try simp only [Act.put, List.getElem_toArray, List.getElem_cons_zero, List.getElem_cons_succ, List.setIfInBounds_toArray, List.set_cons_zero, List.set_cons_succ])
  refine wpAnyH_ready (rs := [30]) (by kernel_rfl) (by simp) ?_
  refine AllReadyH.cons rfl (fun K hK => ?_) AllReadyH.nil
  go_simp
  (with_reducible refine (point_any 0 _).mono ?_)
  rintro e y9 ⟨rfl, hb⟩
  (try dsimp only)
  have Y9 := Lib.hid (below_mono Y8.out hb)
  clear hb
  (try go_wp2_with fail)
  refine hK.out _ _ (JS.out _ Y9.out) (fun hHeld2 => ?_)
  clear hK K hHeld
  have hHeld := hHeld2
  clear hHeld2
  (try simp only [Act.put, List.getElem_toArray, List.getElem_cons_zero, List.getElem_cons_succ, List.setIfInBounds_toArray, List.set_cons_zero, List.set_cons_succ])
  refine wpAnyH_take (i := 31) (v := .agg #[.int .i64 518400000, .int .i64 518400000, .int .i64 0, .int .i64 0, .int .i64 0, .int .i64 0]) rfl (by kernel_rfl) (by kernel_rfl) (by kernel_rfl) (fun _ _ _ h => h) (Or.inl ⟨by rfl, by intro w hSw; (try dsimp only at hSw); go_simp⟩) (by assumption) ?_
  (try simp only [Act.put, List.getElem_toArray, List.getElem_cons_zero, List.getElem_cons_succ, List.setIfInBounds_toArray, List.set_cons_zero, List.set_cons_succ])
  refine wpAnyH_take (i := 32) (v := .bool true) rfl (by kernel_rfl) (by kernel_rfl) (by kernel_rfl) (fun _ _ _ h => h) (Or.inl ⟨by rfl, by intro w hSw; (try dsimp only at hSw); go_simp⟩) (by assumption) ?_
  (try simp only [Act.put, List.getElem_toArray, List.getElem_cons_zero, List.getElem_cons_succ, List.setIfInBounds_toArray, List.set_cons_zero, List.set_cons_succ])
  refine wpAnyH_take (i := 33) (v := .bool true) rfl (by kernel_rfl) (by kernel_rfl) (by kernel_rfl) (fun _ _ _ h => h) (Or.inl ⟨by rfl, by intro w hSw; (try dsimp only at hSw); go_simp⟩) (by assumption) ?_
  (try simp only [Act.put, List.getElem_toArray, List.getElem_cons_zero, List.getElem_cons_succ, List.setIfInBounds_toArray, List.set_cons_zero, List.set_cons_succ])
  refine wpAnyH_ready (rs := [34]) (by kernel_rfl) (by simp) ?_
  refine AllReadyH.cons rfl (fun K hK => ?_) AllReadyH.nil
  go_simp
  refine hK.out _ _ (JS.out _ Y9.out) (fun hHeld2 => ?_)
  clear hK K hHeld
  have hHeld := hHeld2
  clear hHeld2
  (try simp only [Act.put, List.getElem_toArray, List.getElem_cons_zero, List.getElem_cons_succ, List.setIfInBounds_toArray, List.set_cons_zero, List.set_cons_succ])
  refine wpAnyH_done (by kernel_rfl) ?_ _
  go_wp2
  go_ret
  exact ⟨rfl, below_mono B3.out Y9.out⟩

end Go.Proofs.Ytlekjkljajeodaa

import Derived.Test.YtghallnooijfhaaEphH
import Derived.Test.YtghallnooijfhaaEphT
import Derived.Test.YtghallnooijfhaaMg6
import Derived.Test.YtghallnooijfhaaMg5
import Derived.Test.YtghallnooijfhaaMg10
import Derived.Test.YtghallnooijfhaaEphG
namespace Go.Proofs.Ytghallnooijfhaa
open Go.RowKit
attribute [local go_sem ↓] Go.wp_at_zero Go.wp_at_succ
/-- Whether two vectors are the same. -/
def eqV (v u : V6) : Bool := (v.l0 == u.l0 && v.h0 == u.h0) && ((v.l1 == u.l1 && v.h1 == u.h1) && (v.l2 == u.l2 && v.h2 == u.h2))

theorem eqV_iff (v u : V6) : eqV v u = true ↔ v = u := by
  cases v; cases u
  simp [eqV, and_assoc]

theorem eqV_self (v : V6) : eqV v v = true := (eqV_iff v v).2 rfl

theorem iv_eqlIn (d : Nat) (a b c e : Int) (W : World) : (Op.equalIn (d + 2) 36 (.agg #[.int .i64 a, .int .i64 b]) (.agg #[.int .i64 c, .int .i64 e])).run Try.prog W = .ok (a == c && b == e) W := by
  rw [run_equalIn_struct W (d + 1) 36 _ _ (by kernel_rfl) (by kernel_rfl)]
  unfold Program.fieldsOf
  rw [Try.underlying36]
  cases h1 : (a == c) <;> cases h2 : (b == e) <;> simp [Op.eqFields, go_sem, h1, h2]

set_option maxRecDepth 100000 in
theorem vec_eqlIn (v u : V6) (W : World) : (Op.equalIn 10000 38 (.agg #[.int .i64 v.l0, .int .i64 v.h0, .int .i64 v.l1, .int .i64 v.h1, .int .i64 v.l2, .int .i64 v.h2]) (.agg #[.int .i64 u.l0, .int .i64 u.h0, .int .i64 u.l1, .int .i64 u.h1, .int .i64 u.l2, .int .i64 u.h2])).run Try.prog W = .ok (eqV v u) W := by
  obtain ⟨a, b, c, d, e, f⟩ := v
  obtain ⟨g, h, i, j, k, l⟩ := u
  unfold Op.equalIn
  simp only [Sem.run_bind, run_underlying Try.underlying38, Result.andThen_ok]
  have hs : (sizeOf 36).run Try.prog W = .ok 2 W := by kernel_rfl
  have hp : ∀ (x y z u v r : Int) (n : Nat) (p q : Int), (n = 0 ∧ p = x ∧ q = y ∨ n = 2 ∧ p = z ∧ q = u ∨ n = 4 ∧ p = v ∧ q = r) → (part 36 #[.int .i64 x, .int .i64 y, .int .i64 z, .int .i64 u, .int .i64 v, .int .i64 r] n).run Try.prog W = .ok (.agg #[.int .i64 p, .int .i64 q]) W := by
    rintro x y z u v r n p q (⟨rfl, rfl, rfl⟩ | ⟨rfl, rfl, rfl⟩ | ⟨rfl, rfl, rfl⟩) <;> rfl
  rw [hs]
  simp only [Result.andThen_ok, Std.Legacy.Range.forIn_eq_forIn_range', Std.Legacy.Range.size]
  simp [List.range']
  rw [hp a b c d e f 0 a b (by simp)]
  simp only [Result.andThen_ok]
  rw [hp g h i j k l 0 g h (by simp)]
  simp only [Result.andThen_ok]
  rw [iv_eqlIn 9997]
  simp only [Result.andThen_ok]
  unfold eqV
  dsimp only
  cases (a == g && b == h) with
  | false => rfl
  | true =>
    rw [if_neg (by decide), hp a b c d e f 2 c d (by simp)]
    simp only [Result.andThen_ok]
    rw [hp g h i j k l 2 i j (by simp)]
    simp only [Result.andThen_ok]
    rw [iv_eqlIn 9997]
    simp only [Result.andThen_ok]
    cases (c == i && d == j) with
    | false => rfl
    | true =>
      rw [if_neg (by decide), hp a b c d e f 4 e f (by simp)]
      simp only [Result.andThen_ok]
      rw [hp g h i j k l 4 k l (by simp)]
      simp only [Result.andThen_ok]
      rw [iv_eqlIn 9997]
      simp only [Result.andThen_ok]
      cases (e == k && f == l) <;> rfl

def smS (a0 a1 a2 : Option Addr) : SG := ⟨0, 1000, a0, [5, 3], 2, a1, [0, 0, 4], 3, a2, [7], 1⟩

def smB (A1 a0 a1 a2 : Option Addr) : BG := ⟨[97], 3, 2, A1, [smS a0 a1 a2], 1⟩

theorem sm_chk (A1 a0 a1 a2 : Option Addr) : chkE [smB A1 a0 a1 a2] = 0 := by
  refine chkE_good (by show (1 : Nat) ≤ 12; decide) (fun b hb => by rw [List.mem_singleton] at hb; subst hb; rfl) ⟨fun k hk => ?_, fun k hk => ?_⟩
  · obtain rfl : k = 0 := by simpa using hk
    refine ⟨rfl, by show (0 : Int) ≤ 3; decide, by show (3 : Int) ≤ 1152921504606846976; decide, by show (0 : Int) ≤ 2; decide, by show (2 : Int) ≤ 1125899906842624; decide, by show 0 < 1; decide, fun j hj => ?_, fun j hj => by simp [smB] at hj⟩
    obtain rfl : j = 0 := by simpa [smB] using hj
    show segB (smS a0 a1 a2) = true
    simp [smS, segB, outB, listB]
  · obtain rfl : k = 0 := by simpa using hk
    rfl

theorem sm_gr (A1 a0 a1 a2 : Option Addr) : grE [smB A1 a0 a1 a2] = false := by rfl

theorem sm_pl (A1 a0 a1 a2 : Option Addr) : plE [smB A1 a0 a1 a2] 0 1000 = (⟨8, 8, 4, 4, 7, 7⟩, 0) ∧ plE [smB A1 a0 a1 a2] 0 500 = (⟨5, 5, -4, -4, 7, 7⟩, 0) ∧ spE [smB A1 a0 a1 a2] 0 500 = (⟨518400000, 518400000, 0, 0, 0, 0⟩, 0) := by
  have hc := sm_chk A1 a0 a1 a2
  have hg : getB [smB A1 a0 a1 a2] 0 = some (smB A1 a0 a1 a2) := rfl
  have s1 : segOf (smB A1 a0 a1 a2).ss 1000 = some (smS a0 a1 a2) := rfl
  have s2 : segOf (smB A1 a0 a1 a2).ss 500 = some (smS a0 a1 a2) := rfl
  have u1 : unS (vlQ [5, 3] (Rat.divInt 1000 1000)) = (8, 8, 0) := by kernel_rfl
  have u2 : unS (vlQ [0, 0, 4] (Rat.divInt 1000 1000)) = (4, 4, 0) := by kernel_rfl
  have u3 : unS (vlQ [7] (Rat.divInt 1000 1000)) = (7, 7, 0) := by kernel_rfl
  have v1 : unS (vlQ [5, 3] (Rat.divInt 0 1000)) = (5, 5, 0) := by kernel_rfl
  have v2 : unS (vlQ [0, 0, 4] (Rat.divInt 0 1000)) = (-4, -4, 0) := by kernel_rfl
  have v3 : unS (vlQ [7] (Rat.divInt 0 1000)) = (7, 7, 0) := by kernel_rfl
  have w1 : unS (spQ [5, 3] (Rat.divInt 0 1000) * Rat.divInt 172800000000 1000) = (518400000, 518400000, 0) := by kernel_rfl
  have w2 : unS (spQ [0, 0, 4] (Rat.divInt 0 1000) * Rat.divInt 172800000000 1000) = (0, 0, 0) := by kernel_rfl
  have w3 : unS (spQ [7] (Rat.divInt 0 1000) * Rat.divInt 172800000000 1000) = (0, 0, 0) := by kernel_rfl
  refine ⟨?_, ?_, ?_⟩
  · unfold plE lkE
    rw [if_pos hc, hg]
    simp only [s1]
    have : plV (smS a0 a1 a2) 1000 = ⟨(unS (vlQ [5, 3] (Rat.divInt 1000 1000))).1, (unS (vlQ [5, 3] (Rat.divInt 1000 1000))).2.1, (unS (vlQ [0, 0, 4] (Rat.divInt 1000 1000))).1, (unS (vlQ [0, 0, 4] (Rat.divInt 1000 1000))).2.1, (unS (vlQ [7] (Rat.divInt 1000 1000))).1, (unS (vlQ [7] (Rat.divInt 1000 1000))).2.1⟩ := rfl
    rw [this, u1, u2, u3]
  · unfold plE lkE
    rw [if_pos hc, hg]
    simp only [s2]
    have : plV (smS a0 a1 a2) 500 = ⟨(unS (vlQ [5, 3] (Rat.divInt 0 1000))).1, (unS (vlQ [5, 3] (Rat.divInt 0 1000))).2.1, (unS (vlQ [0, 0, 4] (Rat.divInt 0 1000))).1, (unS (vlQ [0, 0, 4] (Rat.divInt 0 1000))).2.1, (unS (vlQ [7] (Rat.divInt 0 1000))).1, (unS (vlQ [7] (Rat.divInt 0 1000))).2.1⟩ := rfl
    rw [this, v1, v2, v3]
  · unfold spE lkE
    rw [if_pos hc, hg]
    simp only [s2]
    have : spR (smS a0 a1 a2) 500 = allV (unS (spQ [5, 3] (Rat.divInt 0 1000) * Rat.divInt 172800000000 1000)) (unS (spQ [0, 0, 4] (Rat.divInt 0 1000) * Rat.divInt 172800000000 1000)) (unS (spQ [7] (Rat.divInt 0 1000) * Rat.divInt 172800000000 1000)) := rfl
    rw [this, w1, w2, w3]
    rfl

set_option maxRecDepth 100000 in
set_option maxHeartbeats 8000000 in
theorem point_any (n : Int) (w : World) : Calls Try.prog 14 #[.int .i64 n] w fun e w' => e = .returned (.agg #[.int .i64 n, .int .i64 n]) ∧ Below w.heap.size w w' := by
  go_enter Try.func14, Try.ntmps14
  go_wp2
  exact bodyPost_ret (v := .agg #[.int .i64 n, .int .i64 n]) (by simp [results, Try.results14, go_sem]) rfl ⟨rfl, blw1 _ _⟩

theorem sli_blk {w : World} {g : Nat} {t : TypeId} {l : List Int} (h : BlkV w g t (cI l).toArray) (hl : In64 l) (hn : l.length ≤ 17592186044416) : SlI w w.heap.size (some ⟨g, 0, none⟩) l l.length :=
  ⟨(RdV.of_blk h).here, hl, Nat.le_refl _, hn⟩

theorem sls_one {w : World} {g : Nat} {t : TypeId} {s : SG} (h : BlkV w g t s.cells.toArray) (ok : OkS w w.heap.size s) : SlS w w.heap.size (some ⟨g, 0, none⟩) [s] 1 :=
  ⟨by have := (RdV.of_blk h).here; simpa using this, fun x hx => by rw [List.mem_singleton] at hx; subst hx; exact ok, by simp, by simp⟩

theorem slb_one {w : World} {g : Nat} {t : TypeId} {b : BG} (h : BlkV w g t b.cells.toArray) (ok : OkB w w.heap.size b) : SlB w w.heap.size (some ⟨g, 0, none⟩) [b] 1 :=
  ⟨by have := (RdV.of_blk h).here; simpa using this, fun x hx => by rw [List.mem_singleton] at hx; subst hx; exact ok, by simp, by simp⟩

theorem in64_small {l : List Int} (h : l.all (fun x => decide (-1000 ≤ x) && decide (x ≤ 1000)) = true) : In64 l := fun x hx => by
  have := List.all_eq_true.1 h x hx
  simp only [Bool.and_eq_true, decide_eq_true_eq] at this
  omega

set_option maxRecDepth 100000 in
set_option maxHeartbeats 8000000 in
theorem small_any (w : World) : Calls Try.prog 13 #[] w fun e w' => ∃ A c A1 a0 a1 a2, e = .returned (.agg #[.slice A 1 c]) ∧ SlB w' w'.heap.size A [smB A1 a0 a1 a2] c ∧ Below w.heap.size w w' := by
  go_enter Try.func13, Try.ntmps13
  go_wp2
  refine bodyPost_ret (v := .agg #[.slice (some ⟨w.heap.size + 1 + 1 + 1 + 1 + 1 + 1, 0, none⟩) 1 1]) (by simp [results, Try.results13, go_sem]) rfl ?_
  generalize hW : ((((((w.alloc (.cells #[.slice (some ⟨w.heap.size + 1 + 1 + 1 + 1 + 1 + 1, 0, none⟩) 1 1] 24)).alloc _).alloc _).alloc _).alloc _).alloc _).alloc _ = W
  have b1 : BlkV W (w.heap.size + 1) 2 (cI [5, 3]).toArray := by rw [← hW]; exact (((((BlkV.fresh (by simp) _ _).alloc _).alloc _).alloc _).alloc _).alloc _
  have b2 : BlkV W (w.heap.size + 1 + 1) 2 (cI [0, 0, 4]).toArray := by rw [← hW]; exact ((((BlkV.fresh (by simp) _ _).alloc _).alloc _).alloc _).alloc _
  have b3 : BlkV W (w.heap.size + 1 + 1 + 1) 2 (cI [7]).toArray := by rw [← hW]; exact (((BlkV.fresh (by simp) _ _).alloc _).alloc _).alloc _
  have b5 : BlkV W (w.heap.size + 1 + 1 + 1 + 1 + 1) 31 (smS (some ⟨w.heap.size + 1, 0, none⟩) (some ⟨w.heap.size + 1 + 1, 0, none⟩) (some ⟨w.heap.size + 1 + 1 + 1, 0, none⟩)).cells.toArray := by rw [← hW]; exact (BlkV.fresh (by simp) _ _).alloc _
  have b6 : BlkV W (w.heap.size + 1 + 1 + 1 + 1 + 1 + 1) 34 (smB (some ⟨w.heap.size + 1 + 1 + 1 + 1 + 1, 0, none⟩) (some ⟨w.heap.size + 1, 0, none⟩) (some ⟨w.heap.size + 1 + 1, 0, none⟩) (some ⟨w.heap.size + 1 + 1 + 1, 0, none⟩)).cells.toArray := by rw [← hW]; exact BlkV.fresh (by simp) _ _
  have hb : Below w.heap.size w W := by rw [← hW]; exact below_mono (below_mono (below_mono (below_mono (below_mono (below_mono (blw1 _ _) (blw1 _ _)) (blw1 _ _)) (blw1 _ _)) (blw1 _ _)) (blw1 _ _)) (blw1 _ _)
  have ok : OkS W W.heap.size (smS (some ⟨w.heap.size + 1, 0, none⟩) (some ⟨w.heap.size + 1 + 1, 0, none⟩) (some ⟨w.heap.size + 1 + 1 + 1, 0, none⟩)) :=
    ⟨sli_blk b1 (in64_small rfl) (by simp [smS]), sli_blk b2 (in64_small rfl) (by simp [smS]), sli_blk b3 (in64_small rfl) (by simp [smS]), by simp [smS], by simp [smS], by simp [smS], by simp [smS]⟩
  exact ⟨_, 1, _, _, _, _, rfl, slb_one b6 ⟨sls_one b5 ok, by simp [smB], by simp [smB], by simp [smB], by simp [smB], by simp [smB]⟩, hb⟩

set_option maxRecDepth 100000 in
set_option maxHeartbeats 8000000 in
theorem alive_any (w : World) : Calls Try.prog 5 #[] w fun e w' => e = .returned (.bool true) ∧ Below w.heap.size w w' := by
  have B0 : Hid (Below w.heap.size w w) := Below.refl _ _
  go_enter Try.func5, Try.ntmps5
  go_wp2_with fail
  refine (small_any _).mono ?_
  rintro e u0 ⟨A, c, A1, a0, a1, a2, rfl, hs, hb⟩
  have HU := Lib.hid (below_mono B0.out hb)
  clear hb
  go_wp2_with fail
  refine (ePlace_any [smB A1 a0 a1 a2] A c u0.heap.size 0 1000 u0 hs (sm_gr _ _ _ _)).mono ?_
  rw [(sm_pl A1 a0 a1 a2).1]
  rintro e v0 ⟨rfl, hb⟩
  dsimp only
  have HV := Lib.hid (below_mono HU.out hb)
  clear hb hs HU
  go_upto_region 2 with fail
  generalize hw : v0.alloc (.cells #[.int .i64 8, .int .i64 8, .int .i64 4, .int .i64 4, .int .i64 7, .int .i64 7] 38) = x0 at *
  have B1 : Hid (Below w.heap.size w x0) := by rw [← hw]; exact below_mono HV.out (blw1 _ _)
  have KV0 : Hid (BlkV x0 v0.heap.size 38 #[.int .i64 8, .int .i64 8, .int .i64 4, .int .i64 4, .int .i64 7, .int .i64 7]) := by rw [← hw]; exact BlkV.fresh rfl _ _
  clear hw HV
  generalize v0.heap.size = g0 at *
  go_wp2_with fail
  refine (small_any _).mono ?_
  rintro e u1 ⟨A, c, A1, a0, a1, a2, rfl, hs, hb⟩
  have HU := Lib.hid (below_mono B1.out hb)
  replace KV0 := Lib.hid (KV0.out.keep hb)
  clear hb
  go_wp2_with fail
  refine (ePlace_any [smB A1 a0 a1 a2] A c u1.heap.size 0 500 u1 hs (sm_gr _ _ _ _)).mono ?_
  rw [(sm_pl A1 a0 a1 a2).2.1]
  rintro e v1 ⟨rfl, hb⟩
  dsimp only
  have HV := Lib.hid (below_mono HU.out hb)
  replace KV0 := Lib.hid (KV0.out.keep hb)
  clear hb hs HU
  go_upto_region 3 with fail
  generalize hw : v1.alloc (.cells #[.int .i64 5, .int .i64 5, .int .i64 (-4), .int .i64 (-4), .int .i64 7, .int .i64 7] 38) = x1 at *
  have B2 : Hid (Below w.heap.size w x1) := by rw [← hw]; exact below_mono HV.out (blw1 _ _)
  have KV1 : Hid (BlkV x1 v1.heap.size 38 #[.int .i64 5, .int .i64 5, .int .i64 (-4), .int .i64 (-4), .int .i64 7, .int .i64 7]) := by rw [← hw]; exact BlkV.fresh rfl _ _
  replace KV0 : Hid (BlkV x1 g0 38 #[.int .i64 8, .int .i64 8, .int .i64 4, .int .i64 4, .int .i64 7, .int .i64 7]) := by rw [← hw]; exact KV0.out.alloc _
  clear hw HV
  generalize v1.heap.size = g1 at *
  go_wp2_with fail
  refine (small_any _).mono ?_
  rintro e u2 ⟨A, c, A1, a0, a1, a2, rfl, hs, hb⟩
  have HU := Lib.hid (below_mono B2.out hb)
  replace KV0 := Lib.hid (KV0.out.keep hb)
  replace KV1 := Lib.hid (KV1.out.keep hb)
  clear hb
  go_wp2_with fail
  refine (eSpeed_any [smB A1 a0 a1 a2] A c u2.heap.size 0 500 u2 hs (sm_gr _ _ _ _)).mono ?_
  rw [(sm_pl A1 a0 a1 a2).2.2]
  rintro e v2 ⟨rfl, hb⟩
  dsimp only
  have HV := Lib.hid (below_mono HU.out hb)
  replace KV0 := Lib.hid (KV0.out.keep hb)
  replace KV1 := Lib.hid (KV1.out.keep hb)
  clear hb hs HU
  go_upto_region 4 with fail
  generalize hw : v2.alloc (.cells #[.int .i64 518400000, .int .i64 518400000, .int .i64 0, .int .i64 0, .int .i64 0, .int .i64 0] 38) = x2 at *
  have B3 : Hid (Below w.heap.size w x2) := by rw [← hw]; exact below_mono HV.out (blw1 _ _)
  have KV2 : Hid (BlkV x2 v2.heap.size 38 #[.int .i64 518400000, .int .i64 518400000, .int .i64 0, .int .i64 0, .int .i64 0, .int .i64 0]) := by rw [← hw]; exact BlkV.fresh rfl _ _
  replace KV0 : Hid (BlkV x2 g0 38 #[.int .i64 8, .int .i64 8, .int .i64 4, .int .i64 4, .int .i64 7, .int .i64 7]) := by rw [← hw]; exact KV0.out.alloc _
  replace KV1 : Hid (BlkV x2 g1 38 #[.int .i64 5, .int .i64 5, .int .i64 (-4), .int .i64 (-4), .int .i64 7, .int .i64 7]) := by rw [← hw]; exact KV1.out.alloc _
  clear hw HV
  generalize v2.heap.size = g2 at *
  have JS : Hid (∀ X, Below x2.heap.size x2 X → X.cell? ⟨g0, 0, none⟩ = some (.int .i64 8) ∧ X.cell? ⟨g0, 1, none⟩ = some (.int .i64 8) ∧ X.cell? ⟨g0, 2, none⟩ = some (.int .i64 4) ∧ X.cell? ⟨g0, 3, none⟩ = some (.int .i64 4) ∧ X.cell? ⟨g0, 4, none⟩ = some (.int .i64 7) ∧ X.cell? ⟨g0, 5, none⟩ = some (.int .i64 7) ∧ X.cell? ⟨g1, 0, none⟩ = some (.int .i64 5) ∧ X.cell? ⟨g1, 1, none⟩ = some (.int .i64 5) ∧ X.cell? ⟨g1, 2, none⟩ = some (.int .i64 (-4)) ∧ X.cell? ⟨g1, 3, none⟩ = some (.int .i64 (-4)) ∧ X.cell? ⟨g1, 4, none⟩ = some (.int .i64 7) ∧ X.cell? ⟨g1, 5, none⟩ = some (.int .i64 7) ∧ X.cell? ⟨g2, 0, none⟩ = some (.int .i64 518400000) ∧ X.cell? ⟨g2, 1, none⟩ = some (.int .i64 518400000) ∧ X.cell? ⟨g2, 2, none⟩ = some (.int .i64 0) ∧ X.cell? ⟨g2, 3, none⟩ = some (.int .i64 0) ∧ X.cell? ⟨g2, 4, none⟩ = some (.int .i64 0) ∧ X.cell? ⟨g2, 5, none⟩ = some (.int .i64 0)) := fun X h => ⟨(KV0.out.keep h).at_ 0 rfl, (KV0.out.keep h).at_ 1 rfl, (KV0.out.keep h).at_ 2 rfl, (KV0.out.keep h).at_ 3 rfl, (KV0.out.keep h).at_ 4 rfl, (KV0.out.keep h).at_ 5 rfl, (KV1.out.keep h).at_ 0 rfl, (KV1.out.keep h).at_ 1 rfl, (KV1.out.keep h).at_ 2 rfl, (KV1.out.keep h).at_ 3 rfl, (KV1.out.keep h).at_ 4 rfl, (KV1.out.keep h).at_ 5 rfl, (KV2.out.keep h).at_ 0 rfl, (KV2.out.keep h).at_ 1 rfl, (KV2.out.keep h).at_ 2 rfl, (KV2.out.keep h).at_ 3 rfl, (KV2.out.keep h).at_ 4 rfl, (KV2.out.keep h).at_ 5 rfl⟩
  have Y0 : Hid (Below x2.heap.size x2 x2.drew) := (Below.refl _ _).drew
  clear KV0 KV1 KV2
  have hq0 : ∀ W, (Op.equalIn 10000 38 (.agg #[.int .i64 8, .int .i64 8, .int .i64 4, .int .i64 4, .int .i64 7, .int .i64 7]) (.agg #[.int .i64 8, .int .i64 8, .int .i64 4, .int .i64 4, .int .i64 7, .int .i64 7])).run Try.prog W = .ok true W := fun W => by have h := vec_eqlIn ⟨8, 8, 4, 4, 7, 7⟩ ⟨8, 8, 4, 4, 7, 7⟩ W; rwa [eqV_self] at h
  have hq1 : ∀ W, (Op.equalIn 10000 38 (.agg #[.int .i64 5, .int .i64 5, .int .i64 (-4), .int .i64 (-4), .int .i64 7, .int .i64 7]) (.agg #[.int .i64 5, .int .i64 5, .int .i64 (-4), .int .i64 (-4), .int .i64 7, .int .i64 7])).run Try.prog W = .ok true W := fun W => by have h := vec_eqlIn ⟨5, 5, -4, -4, 7, 7⟩ ⟨5, 5, -4, -4, 7, 7⟩ W; rwa [eqV_self] at h
  have hq2 : ∀ W, (Op.equalIn 10000 38 (.agg #[.int .i64 518400000, .int .i64 518400000, .int .i64 0, .int .i64 0, .int .i64 0, .int .i64 0]) (.agg #[.int .i64 518400000, .int .i64 518400000, .int .i64 0, .int .i64 0, .int .i64 0, .int .i64 0])).run Try.prog W = .ok true W := fun W => by have h := vec_eqlIn ⟨518400000, 518400000, 0, 0, 0, 0⟩ ⟨518400000, 518400000, 0, 0, 0, 0⟩ W; rwa [eqV_self] at h
  refine wp_region_held_drew (S := fun w' => w'.cell? ⟨g0, 0, none⟩ = some (.int .i64 8) ∧ w'.cell? ⟨g0, 1, none⟩ = some (.int .i64 8) ∧ w'.cell? ⟨g0, 2, none⟩ = some (.int .i64 4) ∧ w'.cell? ⟨g0, 3, none⟩ = some (.int .i64 4) ∧ w'.cell? ⟨g0, 4, none⟩ = some (.int .i64 7) ∧ w'.cell? ⟨g0, 5, none⟩ = some (.int .i64 7) ∧ w'.cell? ⟨g1, 0, none⟩ = some (.int .i64 5) ∧ w'.cell? ⟨g1, 1, none⟩ = some (.int .i64 5) ∧ w'.cell? ⟨g1, 2, none⟩ = some (.int .i64 (-4)) ∧ w'.cell? ⟨g1, 3, none⟩ = some (.int .i64 (-4)) ∧ w'.cell? ⟨g1, 4, none⟩ = some (.int .i64 7) ∧ w'.cell? ⟨g1, 5, none⟩ = some (.int .i64 7) ∧ w'.cell? ⟨g2, 0, none⟩ = some (.int .i64 518400000) ∧ w'.cell? ⟨g2, 1, none⟩ = some (.int .i64 518400000) ∧ w'.cell? ⟨g2, 2, none⟩ = some (.int .i64 0) ∧ w'.cell? ⟨g2, 3, none⟩ = some (.int .i64 0) ∧ w'.cell? ⟨g2, 4, none⟩ = some (.int .i64 0) ∧ w'.cell? ⟨g2, 5, none⟩ = some (.int .i64 0)) (by kernel_rfl) (JS.out _ Y0.out) (fun hHeld => ?_)
  refine wpAnyH_take (i := 0) (v := .int .i64 0) rfl (by kernel_rfl) (by kernel_rfl) (by kernel_rfl) (fun _ _ _ h => h) (Or.inl ⟨by rfl, by intro w hSw; (try dsimp only at hSw); go_simp⟩) (by assumption) ?_
  (try simp only [Act.put, List.getElem_toArray, List.getElem_cons_zero, List.setIfInBounds_toArray, List.set_cons_zero, List.set_cons_succ])
  refine wpAnyH_take (i := 1) (v := .bool true) rfl (by kernel_rfl) (by kernel_rfl) (by kernel_rfl) (fun _ _ _ h => h) (Or.inl ⟨by rfl, by intro w hSw; (try dsimp only at hSw); go_simp⟩) (by assumption) ?_
  (try simp only [Act.put, List.getElem_toArray, List.getElem_cons_zero, List.getElem_cons_succ, List.setIfInBounds_toArray, List.set_cons_zero, List.set_cons_succ])
  refine wpAnyH_take (i := 2) (v := .bool true) rfl (by kernel_rfl) (by kernel_rfl) (by kernel_rfl) (fun _ _ _ h => h) (Or.inl ⟨by rfl, by intro w hSw; (try dsimp only at hSw); go_simp⟩) (by assumption) ?_
  (try simp only [Act.put, List.getElem_toArray, List.getElem_cons_zero, List.getElem_cons_succ, List.setIfInBounds_toArray, List.set_cons_zero, List.set_cons_succ])
  refine wpAnyH_take (i := 3) (v := .agg #[.int .i64 8, .int .i64 8, .int .i64 4, .int .i64 4, .int .i64 7, .int .i64 7]) rfl (by kernel_rfl) (by kernel_rfl) (by kernel_rfl) (fun _ _ _ h => h) (Or.inl ⟨by rfl, by intro w hSw; (try dsimp only at hSw); go_simp⟩) (by assumption) ?_
  (try simp only [Act.put, List.getElem_toArray, List.getElem_cons_zero, List.getElem_cons_succ, List.setIfInBounds_toArray, List.set_cons_zero, List.set_cons_succ])
  refine wpAnyH_ready (rs := [4]) (by kernel_rfl) (by simp) ?_
  refine AllReadyH.cons rfl (fun K hK => ?_) AllReadyH.nil
  go_simp
  (with_reducible refine (point_any 8 _).mono ?_)
  rintro e y1 ⟨rfl, hb⟩
  (try dsimp only)
  have Y1 := Lib.hid (below_mono Y0.out hb)
  clear hb
  (try go_wp2_with fail)
  refine hK.out _ _ (JS.out _ Y1.out) (fun hHeld2 => ?_)
  clear hK K hHeld
  have hHeld := hHeld2
  clear hHeld2
  (try simp only [Act.put, List.getElem_toArray, List.getElem_cons_zero, List.getElem_cons_succ, List.setIfInBounds_toArray, List.set_cons_zero, List.set_cons_succ])
  refine wpAnyH_ready (rs := [5]) (by kernel_rfl) (by simp) ?_
  refine AllReadyH.cons rfl (fun K hK => ?_) AllReadyH.nil
  go_simp
  (with_reducible refine (point_any 4 _).mono ?_)
  rintro e y2 ⟨rfl, hb⟩
  (try dsimp only)
  have Y2 := Lib.hid (below_mono Y1.out hb)
  clear hb
  (try go_wp2_with fail)
  refine hK.out _ _ (JS.out _ Y2.out) (fun hHeld2 => ?_)
  clear hK K hHeld
  have hHeld := hHeld2
  clear hHeld2
  (try simp only [Act.put, List.getElem_toArray, List.getElem_cons_zero, List.getElem_cons_succ, List.setIfInBounds_toArray, List.set_cons_zero, List.set_cons_succ])
  refine wpAnyH_ready (rs := [6]) (by kernel_rfl) (by simp) ?_
  refine AllReadyH.cons rfl (fun K hK => ?_) AllReadyH.nil
  go_simp
  (with_reducible refine (point_any 7 _).mono ?_)
  rintro e y3 ⟨rfl, hb⟩
  (try dsimp only)
  have Y3 := Lib.hid (below_mono Y2.out hb)
  clear hb
  (try go_wp2_with fail)
  refine hK.out _ _ (JS.out _ Y3.out) (fun hHeld2 => ?_)
  clear hK K hHeld
  have hHeld := hHeld2
  clear hHeld2
  (try simp only [Act.put, List.getElem_toArray, List.getElem_cons_zero, List.getElem_cons_succ, List.setIfInBounds_toArray, List.set_cons_zero, List.set_cons_succ])
  refine wpAnyH_take (i := 7) (v := .agg #[.int .i64 8, .int .i64 8, .int .i64 4, .int .i64 4, .int .i64 7, .int .i64 7]) rfl (by kernel_rfl) (by kernel_rfl) (by kernel_rfl) (fun _ _ _ h => h) (Or.inl ⟨by rfl, by intro w hSw; (try dsimp only at hSw); go_simp⟩) (by assumption) ?_
  (try simp only [Act.put, List.getElem_toArray, List.getElem_cons_zero, List.getElem_cons_succ, List.setIfInBounds_toArray, List.set_cons_zero, List.set_cons_succ])
  refine wpAnyH_take (i := 8) (v := .bool true) rfl (by kernel_rfl) (by kernel_rfl) (by kernel_rfl) (fun _ _ _ h => h) (Or.inl ⟨by rfl, by intro w hSw; (try dsimp only at hSw); go_simp⟩) (by assumption) ?_
  (try simp only [Act.put, List.getElem_toArray, List.getElem_cons_zero, List.getElem_cons_succ, List.setIfInBounds_toArray, List.set_cons_zero, List.set_cons_succ])
  refine wpAnyH_take (i := 9) (v := .bool true) rfl (by kernel_rfl) (by kernel_rfl) (by kernel_rfl) (fun _ _ _ h => h) (Or.inl ⟨by rfl, by intro w hSw; (try dsimp only at hSw); go_simp⟩) (by assumption) ?_
  (try simp only [Act.put, List.getElem_toArray, List.getElem_cons_zero, List.getElem_cons_succ, List.setIfInBounds_toArray, List.set_cons_zero, List.set_cons_succ])
  refine wpAnyH_take (i := 10) (v := .bool true) rfl (by kernel_rfl) (by kernel_rfl) (by kernel_rfl) (fun _ _ _ h => h) (Or.inl ⟨by rfl, by intro w hSw; (try dsimp only at hSw); go_simp⟩) (by assumption) ?_
  (try simp only [Act.put, List.getElem_toArray, List.getElem_cons_zero, List.getElem_cons_succ, List.setIfInBounds_toArray, List.set_cons_zero, List.set_cons_succ])
  refine wpAnyH_take (i := 11) (v := .int .i64 0) rfl (by kernel_rfl) (by kernel_rfl) (by kernel_rfl) (fun _ _ _ h => h) (Or.inl ⟨by rfl, by intro w hSw; (try dsimp only at hSw); go_simp⟩) (by assumption) ?_
  (try simp only [Act.put, List.getElem_toArray, List.getElem_cons_zero, List.getElem_cons_succ, List.setIfInBounds_toArray, List.set_cons_zero, List.set_cons_succ])
  refine wpAnyH_take (i := 12) (v := .bool true) rfl (by kernel_rfl) (by kernel_rfl) (by kernel_rfl) (fun _ _ _ h => h) (Or.inl ⟨by rfl, by intro w hSw; (try dsimp only at hSw); go_simp⟩) (by assumption) ?_
  (try simp only [Act.put, List.getElem_toArray, List.getElem_cons_zero, List.getElem_cons_succ, List.setIfInBounds_toArray, List.set_cons_zero, List.set_cons_succ])
  refine wpAnyH_take (i := 13) (v := .bool true) rfl (by kernel_rfl) (by kernel_rfl) (by kernel_rfl) (fun _ _ _ h => h) (Or.inl ⟨by rfl, by intro w hSw; (try dsimp only at hSw); go_simp⟩) (by assumption) ?_
  (try simp only [Act.put, List.getElem_toArray, List.getElem_cons_zero, List.getElem_cons_succ, List.setIfInBounds_toArray, List.set_cons_zero, List.set_cons_succ])
  refine wpAnyH_take (i := 14) (v := .bool true) rfl (by kernel_rfl) (by kernel_rfl) (by kernel_rfl) (fun _ _ _ h => h) (Or.inl ⟨by rfl, by intro w hSw; (try dsimp only at hSw); go_simp⟩) (by assumption) ?_
  (try simp only [Act.put, List.getElem_toArray, List.getElem_cons_zero, List.getElem_cons_succ, List.setIfInBounds_toArray, List.set_cons_zero, List.set_cons_succ])
  refine wpAnyH_take (i := 15) (v := .agg #[.int .i64 5, .int .i64 5, .int .i64 (-4), .int .i64 (-4), .int .i64 7, .int .i64 7]) rfl (by kernel_rfl) (by kernel_rfl) (by kernel_rfl) (fun _ _ _ h => h) (Or.inl ⟨by rfl, by intro w hSw; (try dsimp only at hSw); go_simp⟩) (by assumption) ?_
  (try simp only [Act.put, List.getElem_toArray, List.getElem_cons_zero, List.getElem_cons_succ, List.setIfInBounds_toArray, List.set_cons_zero, List.set_cons_succ])
  refine wpAnyH_ready (rs := [16]) (by kernel_rfl) (by simp) ?_
  refine AllReadyH.cons rfl (fun K hK => ?_) AllReadyH.nil
  go_simp
  (with_reducible refine (point_any 5 _).mono ?_)
  rintro e y4 ⟨rfl, hb⟩
  (try dsimp only)
  have Y4 := Lib.hid (below_mono Y3.out hb)
  clear hb
  (try go_wp2_with fail)
  refine hK.out _ _ (JS.out _ Y4.out) (fun hHeld2 => ?_)
  clear hK K hHeld
  have hHeld := hHeld2
  clear hHeld2
  (try simp only [Act.put, List.getElem_toArray, List.getElem_cons_zero, List.getElem_cons_succ, List.setIfInBounds_toArray, List.set_cons_zero, List.set_cons_succ])
  refine wpAnyH_ready (rs := [17]) (by kernel_rfl) (by simp) ?_
  refine AllReadyH.cons rfl (fun K hK => ?_) AllReadyH.nil
  go_simp
  (with_reducible refine (point_any (-4) _).mono ?_)
  rintro e y5 ⟨rfl, hb⟩
  (try dsimp only)
  have Y5 := Lib.hid (below_mono Y4.out hb)
  clear hb
  (try go_wp2_with fail)
  refine hK.out _ _ (JS.out _ Y5.out) (fun hHeld2 => ?_)
  clear hK K hHeld
  have hHeld := hHeld2
  clear hHeld2
  (try simp only [Act.put, List.getElem_toArray, List.getElem_cons_zero, List.getElem_cons_succ, List.setIfInBounds_toArray, List.set_cons_zero, List.set_cons_succ])
  refine wpAnyH_ready (rs := [18]) (by kernel_rfl) (by simp) ?_
  refine AllReadyH.cons rfl (fun K hK => ?_) AllReadyH.nil
  go_simp
  (with_reducible refine (point_any 7 _).mono ?_)
  rintro e y6 ⟨rfl, hb⟩
  (try dsimp only)
  have Y6 := Lib.hid (below_mono Y5.out hb)
  clear hb
  (try go_wp2_with fail)
  refine hK.out _ _ (JS.out _ Y6.out) (fun hHeld2 => ?_)
  clear hK K hHeld
  have hHeld := hHeld2
  clear hHeld2
  (try simp only [Act.put, List.getElem_toArray, List.getElem_cons_zero, List.getElem_cons_succ, List.setIfInBounds_toArray, List.set_cons_zero, List.set_cons_succ])
  refine wpAnyH_take (i := 19) (v := .agg #[.int .i64 5, .int .i64 5, .int .i64 (-4), .int .i64 (-4), .int .i64 7, .int .i64 7]) rfl (by kernel_rfl) (by kernel_rfl) (by kernel_rfl) (fun _ _ _ h => h) (Or.inl ⟨by rfl, by intro w hSw; (try dsimp only at hSw); go_simp⟩) (by assumption) ?_
  (try simp only [Act.put, List.getElem_toArray, List.getElem_cons_zero, List.getElem_cons_succ, List.setIfInBounds_toArray, List.set_cons_zero, List.set_cons_succ])
  refine wpAnyH_take (i := 20) (v := .bool true) rfl (by kernel_rfl) (by kernel_rfl) (by kernel_rfl) (fun _ _ _ h => h) (Or.inl ⟨by rfl, by intro w hSw; (try dsimp only at hSw); go_simp⟩) (by assumption) ?_
  (try simp only [Act.put, List.getElem_toArray, List.getElem_cons_zero, List.getElem_cons_succ, List.setIfInBounds_toArray, List.set_cons_zero, List.set_cons_succ])
  refine wpAnyH_take (i := 21) (v := .bool true) rfl (by kernel_rfl) (by kernel_rfl) (by kernel_rfl) (fun _ _ _ h => h) (Or.inl ⟨by rfl, by intro w hSw; (try dsimp only at hSw); go_simp⟩) (by assumption) ?_
  (try simp only [Act.put, List.getElem_toArray, List.getElem_cons_zero, List.getElem_cons_succ, List.setIfInBounds_toArray, List.set_cons_zero, List.set_cons_succ])
  refine wpAnyH_take (i := 22) (v := .bool true) rfl (by kernel_rfl) (by kernel_rfl) (by kernel_rfl) (fun _ _ _ h => h) (Or.inl ⟨by rfl, by intro w hSw; (try dsimp only at hSw); go_simp⟩) (by assumption) ?_
  (try simp only [Act.put, List.getElem_toArray, List.getElem_cons_zero, List.getElem_cons_succ, List.setIfInBounds_toArray, List.set_cons_zero, List.set_cons_succ])
  refine wpAnyH_take (i := 23) (v := .int .i64 0) rfl (by kernel_rfl) (by kernel_rfl) (by kernel_rfl) (fun _ _ _ h => h) (Or.inl ⟨by rfl, by intro w hSw; (try dsimp only at hSw); go_simp⟩) (by assumption) ?_
  (try simp only [Act.put, List.getElem_toArray, List.getElem_cons_zero, List.getElem_cons_succ, List.setIfInBounds_toArray, List.set_cons_zero, List.set_cons_succ])
  refine wpAnyH_take (i := 24) (v := .bool true) rfl (by kernel_rfl) (by kernel_rfl) (by kernel_rfl) (fun _ _ _ h => h) (Or.inl ⟨by rfl, by intro w hSw; (try dsimp only at hSw); go_simp⟩) (by assumption) ?_
  (try simp only [Act.put, List.getElem_toArray, List.getElem_cons_zero, List.getElem_cons_succ, List.setIfInBounds_toArray, List.set_cons_zero, List.set_cons_succ])
  refine wpAnyH_take (i := 25) (v := .bool true) rfl (by kernel_rfl) (by kernel_rfl) (by kernel_rfl) (fun _ _ _ h => h) (Or.inl ⟨by rfl, by intro w hSw; (try dsimp only at hSw); go_simp⟩) (by assumption) ?_
  (try simp only [Act.put, List.getElem_toArray, List.getElem_cons_zero, List.getElem_cons_succ, List.setIfInBounds_toArray, List.set_cons_zero, List.set_cons_succ])
  refine wpAnyH_take (i := 26) (v := .bool true) rfl (by kernel_rfl) (by kernel_rfl) (by kernel_rfl) (fun _ _ _ h => h) (Or.inl ⟨by rfl, by intro w hSw; (try dsimp only at hSw); go_simp⟩) (by assumption) ?_
  (try simp only [Act.put, List.getElem_toArray, List.getElem_cons_zero, List.getElem_cons_succ, List.setIfInBounds_toArray, List.set_cons_zero, List.set_cons_succ])
  refine wpAnyH_take (i := 27) (v := .agg #[.int .i64 518400000, .int .i64 518400000, .int .i64 0, .int .i64 0, .int .i64 0, .int .i64 0]) rfl (by kernel_rfl) (by kernel_rfl) (by kernel_rfl) (fun _ _ _ h => h) (Or.inl ⟨by rfl, by intro w hSw; (try dsimp only at hSw); go_simp⟩) (by assumption) ?_
  (try simp only [Act.put, List.getElem_toArray, List.getElem_cons_zero, List.getElem_cons_succ, List.setIfInBounds_toArray, List.set_cons_zero, List.set_cons_succ])
  refine wpAnyH_ready (rs := [28]) (by kernel_rfl) (by simp) ?_
  refine AllReadyH.cons rfl (fun K hK => ?_) AllReadyH.nil
  go_simp
  (with_reducible refine (point_any 518400000 _).mono ?_)
  rintro e y7 ⟨rfl, hb⟩
  (try dsimp only)
  have Y7 := Lib.hid (below_mono Y6.out hb)
  clear hb
  (try go_wp2_with fail)
  refine hK.out _ _ (JS.out _ Y7.out) (fun hHeld2 => ?_)
  clear hK K hHeld
  have hHeld := hHeld2
  clear hHeld2
  (try simp only [Act.put, List.getElem_toArray, List.getElem_cons_zero, List.getElem_cons_succ, List.setIfInBounds_toArray, List.set_cons_zero, List.set_cons_succ])
  refine wpAnyH_ready (rs := [29]) (by kernel_rfl) (by simp) ?_
  refine AllReadyH.cons rfl (fun K hK => ?_) AllReadyH.nil
  go_simp
  (with_reducible refine (point_any 0 _).mono ?_)
  rintro e y8 ⟨rfl, hb⟩
  (try dsimp only)
  have Y8 := Lib.hid (below_mono Y7.out hb)
  clear hb
  (try go_wp2_with fail)
  refine hK.out _ _ (JS.out _ Y8.out) (fun hHeld2 => ?_)
  clear hK K hHeld
  have hHeld := hHeld2
  clear hHeld2
  (try simp only [Act.put, List.getElem_toArray, List.getElem_cons_zero, List.getElem_cons_succ, List.setIfInBounds_toArray, List.set_cons_zero, List.set_cons_succ])
  refine wpAnyH_ready (rs := [30]) (by kernel_rfl) (by simp) ?_
  refine AllReadyH.cons rfl (fun K hK => ?_) AllReadyH.nil
  go_simp
  (with_reducible refine (point_any 0 _).mono ?_)
  rintro e y9 ⟨rfl, hb⟩
  (try dsimp only)
  have Y9 := Lib.hid (below_mono Y8.out hb)
  clear hb
  (try go_wp2_with fail)
  refine hK.out _ _ (JS.out _ Y9.out) (fun hHeld2 => ?_)
  clear hK K hHeld
  have hHeld := hHeld2
  clear hHeld2
  (try simp only [Act.put, List.getElem_toArray, List.getElem_cons_zero, List.getElem_cons_succ, List.setIfInBounds_toArray, List.set_cons_zero, List.set_cons_succ])
  refine wpAnyH_take (i := 31) (v := .agg #[.int .i64 518400000, .int .i64 518400000, .int .i64 0, .int .i64 0, .int .i64 0, .int .i64 0]) rfl (by kernel_rfl) (by kernel_rfl) (by kernel_rfl) (fun _ _ _ h => h) (Or.inl ⟨by rfl, by intro w hSw; (try dsimp only at hSw); go_simp⟩) (by assumption) ?_
  (try simp only [Act.put, List.getElem_toArray, List.getElem_cons_zero, List.getElem_cons_succ, List.setIfInBounds_toArray, List.set_cons_zero, List.set_cons_succ])
  refine wpAnyH_take (i := 32) (v := .bool true) rfl (by kernel_rfl) (by kernel_rfl) (by kernel_rfl) (fun _ _ _ h => h) (Or.inl ⟨by rfl, by intro w hSw; (try dsimp only at hSw); go_simp⟩) (by assumption) ?_
  (try simp only [Act.put, List.getElem_toArray, List.getElem_cons_zero, List.getElem_cons_succ, List.setIfInBounds_toArray, List.set_cons_zero, List.set_cons_succ])
  refine wpAnyH_take (i := 33) (v := .bool true) rfl (by kernel_rfl) (by kernel_rfl) (by kernel_rfl) (fun _ _ _ h => h) (Or.inl ⟨by rfl, by intro w hSw; (try dsimp only at hSw); go_simp⟩) (by assumption) ?_
  (try simp only [Act.put, List.getElem_toArray, List.getElem_cons_zero, List.getElem_cons_succ, List.setIfInBounds_toArray, List.set_cons_zero, List.set_cons_succ])
  refine wpAnyH_ready (rs := [34]) (by kernel_rfl) (by simp) ?_
  refine AllReadyH.cons rfl (fun K hK => ?_) AllReadyH.nil
  go_simp
  refine hK.out _ _ (JS.out _ Y9.out) (fun hHeld2 => ?_)
  clear hK K hHeld
  have hHeld := hHeld2
  clear hHeld2
  (try simp only [Act.put, List.getElem_toArray, List.getElem_cons_zero, List.getElem_cons_succ, List.setIfInBounds_toArray, List.set_cons_zero, List.set_cons_succ])
  refine wpAnyH_done (by kernel_rfl) ?_ _
  go_wp2
  go_ret
  exact ⟨rfl, below_mono B3.out Y9.out⟩

/-- An interval is one. -/
def OkI (lo hi : Int) : Prop := lo ≤ hi ∧ -2305843009213693952 ≤ lo ∧ hi ≤ 2305843009213693952

structure OkV (v : V6) : Prop where
  a : OkI v.l0 v.h0
  b : OkI v.l1 v.h1
  c : OkI v.l2 v.h2

theorem unS_okI (v : Rat) : OkI (unS v).1 (unS v).2.1 := by
  unfold OkI unS
  split
  · exact ⟨by decide, by decide, by decide⟩
  · have := (fl_le_ceil v).1
    exact ⟨by dsimp only; omega, by dsimp only; omega, by dsimp only; omega⟩

theorem allV_okV (p q r : Rat) : OkV (allV (unS p) (unS q) (unS r)).1 := by
  unfold allV
  split
  · exact ⟨unS_okI p, unS_okI q, unS_okI r⟩
  · exact ⟨⟨by decide, by decide, by decide⟩, ⟨by decide, by decide, by decide⟩, ⟨by decide, by decide, by decide⟩⟩

theorem spR_okV (s : SG) (t : Int) : OkV (spR s t).1 := allV_okV _ _ _

theorem plV_okV (s : SG) (t : Int) : OkV (plV s t) := ⟨unS_okI _, unS_okI _, unS_okI _⟩

set_option maxRecDepth 100000 in
set_option maxHeartbeats 8000000 in
theorem r3check_ok (lo hi : Int) (h : OkI lo hi) (w : World) : Calls Try.prog 18 #[.agg #[.int .i64 lo, .int .i64 hi]] w fun e w' => e = .returned (.int .i64 0) ∧ Below w.heap.size w w' := by
  obtain ⟨h1, h2, h3⟩ := h
  have t1 : decide (hi < lo) = false := decide_eq_false (by omega)
  have t2 : decide (lo < -2305843009213693952) = false := decide_eq_false (by omega)
  have t3 : decide (2305843009213693952 < hi) = false := decide_eq_false (by omega)
  clear h1 h2 h3
  go_enter Try.func18, Try.ntmps18
  go_wp2
  go_ret
  exact ⟨rfl, blw1 _ _⟩

set_option maxRecDepth 100000 in
set_option maxHeartbeats 8000000 in
theorem r17check_ok (v : V6) (h : OkV v) (w : World) : Calls Try.prog 9 #[.agg #[.int .i64 v.l0, .int .i64 v.h0, .int .i64 v.l1, .int .i64 v.h1, .int .i64 v.l2, .int .i64 v.h2]] w fun e w' => e = .returned (.int .i64 0) ∧ Below w.heap.size w w' := by
  have CK : Hid (∀ V k, k < 3 → ∃ lo hi, #[Value.int .i64 v.l0, Value.int .i64 v.h0, Value.int .i64 v.l1, Value.int .i64 v.h1, Value.int .i64 v.l2, Value.int .i64 v.h2][k * 2]? = some (.int .i64 lo) ∧ #[Value.int .i64 v.l0, Value.int .i64 v.h0, Value.int .i64 v.l1, Value.int .i64 v.h1, Value.int .i64 v.l2, Value.int .i64 v.h2][k * 2 + 1]? = some (.int .i64 hi) ∧ Calls Try.prog 18 #[.agg #[.int .i64 lo, .int .i64 hi]] V fun e w' => e = .returned (.int .i64 0) ∧ Below V.heap.size V w') := fun V k hk => by
    have hk' : k = 0 ∨ k = 1 ∨ k = 2 := by omega
    rcases hk' with rfl | rfl | rfl
    · exact ⟨_, _, rfl, rfl, r3check_ok _ _ h.a V⟩
    · exact ⟨_, _, rfl, rfl, r3check_ok _ _ h.b V⟩
    · exact ⟨_, _, rfl, rfl, r3check_ok _ _ h.c V⟩
  clear h
  go_enter Try.func9, Try.ntmps9
  go_wp2_with fail
  generalize hw0 : w.alloc (.cells #[.int .i64 v.l0, .int .i64 v.h0, .int .i64 v.l1, .int .i64 v.h1, .int .i64 v.l2, .int .i64 v.h2] 38) = w0 at *
  have KV : Hid (BlkV w0 w.heap.size 38 #[.int .i64 v.l0, .int .i64 v.h0, .int .i64 v.l1, .int .i64 v.h1, .int .i64 v.l2, .int .i64 v.h2]) := by rw [← hw0]; exact BlkV.fresh rfl _ _
  have HB : Hid (Below w.heap.size w w0) := by rw [← hw0]; exact blw1 _ _
  clear hw0
  go_loopw [3] (fun s3 wr => ∃ k : Nat, k ≤ 3 ∧ s3 = .int .i64 k ∧ Below w0.heap.size w0 wr) (fun v _ => 3 - (intOf v).toNat)
  case atStart => exact ⟨0, by omega, rfl, Below.refl _ _⟩
  case round =>
    obtain ⟨k, hk, rfl, hbr⟩ := hrel
    have K2 := Lib.hid (KV.out.keep hbr)
    have lk := K2.out.lt
    by_cases hk3 : k < 3
    · have tk : decide ((k : Int) < 3) = true := decide_eq_true (by omega)
      obtain ⟨lo, hi, e0, e1, hc⟩ := CK.out wr k hk3
      have x0 := K2.out.at_ (k * 2) e0
      have x1 := K2.out.at_ (k * 2 + 1) e1
      have HC := Lib.hid hc
      clear e0 e1 hc
      go_wp2_with fail
      refine HC.out.mono ?_
      rintro e w2 ⟨rfl, hb⟩
      have HB2 := Lib.hid (below_mono hbr hb)
      clear hb
      go_wp2
      go_roundw
      case rel => exact ⟨k + 1, by omega, by go_num, HB2.out⟩
      case measure => simp [intOf]; omega
    · have tk : decide ((k : Int) < 3) = false := decide_eq_false (by omega)
      have HF := Lib.hid (below_mono HB.out hbr)
      go_wp2
      go_ret
      exact ⟨rfl, HF.out⟩

set_option maxRecDepth 100000 in
set_option maxHeartbeats 8000000 in
theorem r3neg_ok (lo hi : Int) (h : OkI lo hi) (w : World) : Calls Try.prog 11 #[.agg #[.int .i64 lo, .int .i64 hi]] w fun e w' => e = .returned (.tuple #[.agg #[.int .i64 (-hi), .int .i64 (-lo)], .int .i64 0]) ∧ Below w.heap.size w w' := by
  have CK := Lib.hid (fun V => r3check_ok lo hi h V)
  obtain ⟨h1, h2, h3⟩ := h
  have CM : Hid (∀ V, Calls Try.prog 23 #[.int .i64 (-hi), .int .i64 (-lo)] V fun e w' => e = .returned (.tuple #[.agg #[.int .i64 (-hi), .int .i64 (-lo)], .int .i64 0]) ∧ Below V.heap.size V w') := fun V => by
    have h := rivmade_any (-hi) (-lo) V
    unfold madeS at h
    rw [if_neg (by omega)] at h
    exact h
  have r0 : IntKind.i64.wrap (-lo) = -lo := by rw [IntKind.wrap_i64]; omega
  have r1 : IntKind.i64.wrap (-hi) = -hi := by rw [IntKind.wrap_i64]; omega
  clear h1 h2 h3
  go_enter Try.func11, Try.ntmps11
  go_wp2_with fail
  generalize hw0 : (w.alloc (.cells #[.int .i64 lo, .int .i64 hi] 36)).alloc (.cells #[.int .i64 0, .int .i64 0] 36) = w0 at *
  have KX : Hid (BlkV w0 w.heap.size 36 #[.int .i64 lo, .int .i64 hi]) := by rw [← hw0]; exact (BlkV.fresh rfl _ _).alloc _
  have KO : Hid (BlkV w0 (w.heap.size + 1) 36 #[.int .i64 0, .int .i64 0]) := by rw [← hw0]; exact BlkV.fresh (by simp) _ _
  have HB : Hid (Below w.heap.size w w0) := by rw [← hw0]; exact below_mono (blw1 _ _) (blw1 _ _)
  clear hw0
  refine (CK.out _).mono ?_
  rintro e w1 ⟨rfl, hb⟩
  replace KX := Lib.hid (KX.out.keep hb)
  replace KO := Lib.hid (KO.out.keep hb)
  replace HB := Lib.hid (below_mono HB.out hb)
  clear hb CK
  have x0 := KX.out.at_ 0 rfl
  have x1 := KX.out.at_ 1 rfl
  go_wp2_with fail
  refine (CM.out _).mono ?_
  rintro e w2 ⟨rfl, hb⟩
  replace KO := Lib.hid (KO.out.keep hb)
  replace HB := Lib.hid (below_mono HB.out hb)
  clear hb x0 x1
  have a0 := KO.out.at_ 0 rfl
  have a1 := KO.out.at_ 1 rfl
  have f0 := KO.out.frozen 0
  have f1 := KO.out.frozen 1
  have lko := KO.out.lt
  go_wp2
  exact bodyPost_ret (v := .tuple #[.agg #[.int .i64 (-hi), .int .i64 (-lo)], .int .i64 0]) (by simp [results, Try.results11, go_sem, a0, a1]) rfl ⟨rfl, below_setW HB.out (Nat.le_succ _) _ _⟩

end Go.Proofs.Ytghallnooijfhaa

namespace Go.Proofs.Ytghallnooijfhaa
open Go.RowKit
theorem take_snoc_z (l : List Int) {k : Nat} (h : k < l.length) : l.take (k + 1) = l.take k ++ [l[k]'h] := (List.take_append_getElem h).symm

theorem trn_snoc (l : List Int) {k : Nat} (h : k < l.length) : trnL (l.take (k + 1)) = trnL (l.take k) ++ [if k % 2 = 1 then -(l[k]'h) else l[k]'h] := by
  rw [take_snoc_z l h]
  unfold trnL
  rw [List.mapIdx_append]
  have e : (l.take k).length = k := by rw [List.length_take]; omega
  simp [e]

theorem dbl_snoc (l : List Int) {k : Nat} (h : k < l.length) : dblL (l.take (k + 1)) = dblL (l.take k) ++ [2 * (l[k]'h)] := by
  rw [take_snoc_z l h]
  unfold dblL
  rw [List.map_append]
  rfl

/-- The six lists that are made: after i whole coordinates and k numbers of the next. -/
def LS (s : SG) (i k j : Nat) : List Int :=
  if j < 3 then (if j < i then trnL (s.l j) else if j = i then trnL ((s.l j).take k) else [])
  else (if j - 3 < i then dblL (s.l (j - 3)) else if j - 3 = i then dblL ((s.l (j - 3)).take k) else [])

def upd {α : Type} (f : Nat → α) (j : Nat) (x : α) : Nat → α := fun i => if i = j then x else f i

theorem upd_at {α : Type} (f : Nat → α) (j : Nat) (x : α) : upd f j x j = x := if_pos rfl

theorem upd_ne {α : Type} (f : Nat → α) {j i : Nat} (x : α) (h : i ≠ j) : upd f j x i = f i := if_neg h

theorem LS_zero (s : SG) (j : Nat) : LS s 0 0 j = [] := by
  unfold LS
  split
  · rw [if_neg (by omega)]; split <;> simp [trnL]
  · rw [if_neg (by omega)]; split <;> simp [dblL]

theorem LS_next (s : SG) (i : Nat) : LS s i (s.l i).length = LS s (i + 1) 0 := by
  funext j
  unfold LS
  split
  · by_cases h : j < i
    · rw [if_pos h, if_pos (by omega)]
    · rw [if_neg h]
      by_cases h2 : j = i
      · subst h2; rw [if_pos rfl, if_pos (by omega), List.take_length]
      · rw [if_neg h2, if_neg (by omega)]; split <;> simp [trnL]
  · by_cases h : j - 3 < i
    · rw [if_pos h, if_pos (by omega)]
    · rw [if_neg h]
      by_cases h2 : j - 3 = i
      · subst h2; rw [if_pos rfl, if_pos (by omega), List.take_length]
      · rw [if_neg h2, if_neg (by omega)]; split <;> simp [dblL]

theorem LS_at (s : SG) {i : Nat} (hi : i < 3) (k : Nat) : LS s i k i = trnL ((s.l i).take k) ∧ LS s i k (3 + i) = dblL ((s.l i).take k) := by
  have e : 3 + i - 3 = i := by omega
  have h1 : ¬ (3 + i < 3) := by omega
  constructor
  · unfold LS
    rw [if_pos hi, if_neg (Nat.lt_irrefl i), if_pos rfl]
  · unfold LS
    rw [if_neg h1, e, if_neg (Nat.lt_irrefl i), if_pos rfl]

theorem LS_off (s : SG) {i j : Nat} (h1 : j ≠ i) (h2 : j ≠ 3 + i) (k m : Nat) : LS s i k j = LS s i m j := by
  have h3 : ¬ j < 3 → ¬ j - 3 = i := by omega
  unfold LS
  by_cases h : j < 3
  · simp only [if_pos h, if_neg h1]
  · simp only [if_neg h, if_neg (h3 h)]

theorem LS_step (s : SG) {i k : Nat} (hi : i < 3) (hk : k < (s.l i).length) :
    upd (upd (LS s i k) (3 + i) (LS s i k (3 + i) ++ [2 * ((s.l i)[k]'hk)])) i (LS s i k i ++ [if k % 2 = 1 then -((s.l i)[k]'hk) else (s.l i)[k]'hk]) = LS s i (k + 1) := by
  obtain ⟨a1, a2⟩ := LS_at s hi k
  obtain ⟨b1, b2⟩ := LS_at s hi (k + 1)
  funext j
  by_cases h1 : j = i
  · subst h1
    rw [upd_at, a1, b1, trn_snoc _ hk]
  · rw [upd_ne _ _ h1]
    by_cases h2 : j = 3 + i
    · subst h2
      rw [upd_at, a2, b2, dbl_snoc _ hk]
    · rw [upd_ne _ _ h2]
      exact LS_off s h1 h2 _ _

theorem LS_end (s : SG) {j : Nat} (hj : j < 3) : LS s 3 0 j = trnL (s.l j) ∧ LS s 3 0 (3 + j) = dblL (s.l j) := by
  unfold LS
  have e : 3 + j - 3 = j := by omega
  rw [if_pos hj, if_pos hj, if_neg (by omega), e, if_pos hj]
  exact ⟨rfl, rfl⟩

theorem head_seg0 {ss : List SG} (h : 0 < ss.length) : ∃ s r, ss = s :: r := by
  cases ss with
  | nil => simp at h
  | cons s r => exact ⟨s, r, rfl⟩

/-- The place, and the speed, at a time of a body's first segment. -/
theorem first_pl {bs : List BG} {k : Nat} {t : Int} (hc : chkE bs = 0) (hk : k < bs.length) (hs : 0 < (bs[k]'hk).ss.length) (h1 : ((bs[k]'hk).ss[0]'hs).F ≤ t) (h2 : t ≤ ((bs[k]'hk).ss[0]'hs).T) :
    plE bs k t = (plV ((bs[k]'hk).ss[0]'hs) t, 0) ∧ spE bs k t = spR ((bs[k]'hk).ss[0]'hs) t := by
  have hb : getB bs k = some (bs[k]'hk) := by rw [getB_some (by omega)]; simp
  generalize bs[k]'hk = b at *
  obtain ⟨s, r, e⟩ := head_seg0 hs
  have e0 : b.ss[0]'hs = s := by simp [e]
  rw [e0] at h1 h2 ⊢
  have hsg : segOf b.ss t = some s := by
    unfold segOf; rw [e, List.find?_cons]
    have : inS t s = true := by unfold inS; simp; omega
    rw [this]
  constructor
  · unfold plE lkE
    rw [if_pos hc, hb]
    simp only [hsg]
  · unfold spE lkE
    rw [if_pos hc, hb]
    simp only [hsg]

/-- The two bodies. -/
def mB (nm : List UInt8) (A : Option Addr) (r : SG) : BG := ⟨nm, 0, 0, A, [r], 1⟩

def mBs (A1 A2 : Option Addr) (r d : SG) : List BG := [mB [97] A1 r, mB [98] A2 d]

theorem mB_good {nm : List UInt8} (A : Option Addr) {r : SG} (hn : nm = [97] ∨ nm = [98]) (h : segB r = true) : GoodB (mB nm A r) := by
  refine ⟨by rcases hn with rfl | rfl <;> rfl, by show (0 : Int) ≤ 0; decide, by show (0 : Int) ≤ 1152921504606846976; decide, by show (0 : Int) ≤ 0; decide, by show (0 : Int) ≤ 1125899906842624; decide, by show 0 < 1; decide, fun j hj => ?_, fun j hj => by simp [mB] at hj⟩
  obtain rfl : j = 0 := by simpa [mB] using hj
  exact h

theorem mBs_chk {A1 A2 : Option Addr} {r d : SG} (hr : segB r = true) (hd : segB d = true) (mr : manyS r = false) (md : manyS d = false) : chkE (mBs A1 A2 r d) = 0 := by
  refine chkE_good (by show (2 : Nat) ≤ 12; decide) (fun b hb => ?_) ⟨fun k hk => ?_, fun k hk => ?_⟩
  · unfold mBs at hb
    simp only [List.mem_cons, List.not_mem_nil, or_false] at hb
    rcases hb with rfl | rfl
    · unfold manyB mB; simp [mr]
    · unfold manyB mB; simp [md]
  · have hk' : k = 0 ∨ k = 1 := by simp [mBs] at hk; omega
    rcases hk' with rfl | rfl
    · exact mB_good A1 (.inl rfl) hr
    · exact mB_good A2 (.inr rfl) hd
  · have hk' : k = 0 ∨ k = 1 := by simp [mBs] at hk; omega
    rcases hk' with rfl | rfl
    · rfl
    · rfl

end Go.Proofs.Ytghallnooijfhaa

namespace Go.Proofs.Ytghallnooijfhaa
open Go.RowKit
/-- The boxes of the two segments, and the six rows; Wy was the world when the boxes had been made. -/
structure M6 (b gt gd : Nat) (F T : Int) (W0 Wy W : World) (v : Nat → Value) (L : Nat → List Int) : Prop where
  kt : BlkV W gt 31 #[.int .i64 F, .int .i64 T, v 0, v 1, v 2]
  kd : BlkV W gd 31 #[.int .i64 F, .int .i64 T, v 3, v 4, v 5]
  ow : ∀ j, j < 6 → OwV W Wy.heap.size 2 (v j) (cI (L j))
  ap : ∀ i j, i < 6 → j < 6 → i ≠ j → ∀ k, (v i).ownBlock = some k → (v j).ownBlock ≠ some k
  ne : gt ≠ gd
  l1 : gt < Wy.heap.size
  l2 : gd < Wy.heap.size
  b1 : b ≤ gt
  b2 : b ≤ gd
  hb : Below b W0 W
  ot : ∀ g t cs, BlkV Wy g t cs → g ≠ gt → g ≠ gd → BlkV W g t cs
  wy : Wy.heap.size ≤ W.heap.size

section
variable {b gt gd : Nat} {F T : Int} {W0 Wy W W1 : World} {v : Nat → Value} {L : Nat → List Int}
theorem M6.size (h : M6 b gt gd F T W0 Wy W v L) : b ≤ W.heap.size := by have := h.kt.lt; have := h.b1; omega

theorem M6.start (h1 : BlkV Wy gt 31 #[.int .i64 F, .int .i64 T, .slice none 0 0, .slice none 0 0, .slice none 0 0]) (h2 : BlkV Wy gd 31 #[.int .i64 F, .int .i64 T, .slice none 0 0, .slice none 0 0, .slice none 0 0])
    (ne : gt ≠ gd) (b1 : b ≤ gt) (b2 : b ≤ gd) (hb : Below b W0 Wy) (hL : ∀ j, L j = []) : M6 b gt gd F T W0 Wy Wy (fun _ => .slice none 0 0) L :=
  ⟨h1, h2, fun j _ => by rw [hL]; exact OwV.nil0 _ _ _, fun i j _ _ _ k hk => (by cases hk), ne, h1.lt, h2.lt, b1, b2, hb, fun _ _ _ h _ _ => h, Nat.le_refl _⟩

theorem upd3 {f : Nat → Value} {i : Nat} (hi : i < 3) (x a c : Value) : (#[a, c, f 0, f 1, f 2] : Array Value).setIfInBounds (2 + i) x = #[a, c, upd f i x 0, upd f i x 1, upd f i x 2] := by
  obtain rfl | rfl | rfl : i = 0 ∨ i = 1 ∨ i = 2 := by omega
  all_goals rfl

theorem upd3' {f : Nat → Value} {i : Nat} (hi : i < 3) (x a c : Value) : (#[a, c, f 3, f 4, f 5] : Array Value).setIfInBounds (2 + i) x = #[a, c, upd f (3 + i) x 3, upd f (3 + i) x 4, upd f (3 + i) x 5] := by
  obtain rfl | rfl | rfl : i = 0 ∨ i = 1 ∨ i = 2 := by omega
  all_goals rfl

/-- A row is appended to, its value stored in its cell. -/
theorem M6.rows (h : M6 b gt gd F T W0 Wy W v L) {j : Nat} (hj : j < 6) {x : Int} {o : Obj} {v' : Value} (hg : (W.alloc o).grownBy W1 (v j).ownBlock) (ho : OwV W1 Wy.heap.size 2 v' (cI (L j) ++ [.int .i64 x]))
    (hat : v'.ownBlock = (v j).ownBlock ∨ v'.ownBlock = some (W.alloc o).heap.size) (g : Nat) (i : Nat) (hgB : g < Wy.heap.size) :
    (∀ k, k < 6 → OwV (W1.setCell ⟨g, i, none⟩ v') Wy.heap.size 2 (upd v j v' k) (cI (upd L j (L j ++ [x]) k))) ∧ (∀ p q, p < 6 → q < 6 → p ≠ q → ∀ k, (upd v j v' p).ownBlock = some k → (upd v j v' q).ownBlock ≠ some k) := by
  constructor
  · intro k hk
    by_cases e : k = j
    · subst e
      rw [upd_at, upd_at, cI_append]
      exact ho.far hgB _
    · rw [upd_ne _ _ e, upd_ne _ _ e]
      exact (((h.ow k hk).alloc _).grown hg (fun r hr => h.ap k j hk hj e r hr)).far hgB _
  · have low : ∀ p, p < 6 → ∀ k, (v p).ownBlock = some k → k < (W.alloc o).heap.size := fun p hp k hk => by have := ((h.ow p hp).own k hk).2; simp; omega
    intro p q hp hq hpq k h1 h2
    by_cases e1 : p = j
    · subst e1
      rw [upd_at] at h1
      rw [upd_ne _ _ (Ne.symm hpq)] at h2
      rcases hat with e | e
      · rw [e] at h1; exact h.ap _ _ hp hq hpq k h1 h2
      · rw [e] at h1; cases h1; exact absurd (low q hq _ h2) (by omega)
    · rw [upd_ne _ _ e1] at h1
      by_cases e2 : q = j
      · subst e2
        rw [upd_at] at h2
        rcases hat with e | e
        · rw [e] at h2; exact h.ap _ _ hp hq hpq k h1 h2
        · rw [e] at h2; cases h2; exact absurd (low p hp _ h1) (by omega)
      · rw [upd_ne _ _ e2] at h2
        exact h.ap _ _ hp hq hpq k h1 h2

theorem M6.grown (h : M6 b gt gd F T W0 Wy W v L) {j : Nat} (hj : j < 6) {o : Obj} (hg : (W.alloc o).grownBy W1 (v j).ownBlock) :
    BlkV W1 gt 31 #[.int .i64 F, .int .i64 T, v 0, v 1, v 2] ∧ BlkV W1 gd 31 #[.int .i64 F, .int .i64 T, v 3, v 4, v 5] ∧ Below b W0 W1 ∧ (∀ g t cs, BlkV Wy g t cs → g ≠ gt → g ≠ gd → BlkV W1 g t cs) ∧ Wy.heap.size ≤ W1.heap.size :=
  ⟨(h.kt.alloc _).grown hg (fun e => by have := ((h.ow j hj).own _ e.symm).1; have := h.l1; omega), (h.kd.alloc _).grown hg (fun e => by have := ((h.ow j hj).own _ e.symm).1; have := h.l2; omega),
    (h.hb.alloc h.size o).grown hg (by have := h.size; simp; omega) (fun k hk => by have := ((h.ow j hj).own k hk).1; have := h.l1; have := h.b1; omega),
    fun g t cs hg' n1 n2 => ((h.ot g t cs hg' n1 n2).alloc _).grown hg (fun e => by have := ((h.ow j hj).own _ e.symm).1; have := hg'.lt; omega), by have := hg.size; have := h.wy; simp at *; omega⟩

theorem M6.appT (h : M6 b gt gd F T W0 Wy W v L) {i : Nat} (hi : i < 3) {x : Int} {o : Obj} {v' : Value} (hg : (W.alloc o).grownBy W1 (v i).ownBlock) (ho : OwV W1 Wy.heap.size 2 v' (cI (L i) ++ [.int .i64 x]))
    (hat : v'.ownBlock = (v i).ownBlock ∨ v'.ownBlock = some (W.alloc o).heap.size) : M6 b gt gd F T W0 Wy (W1.setCell ⟨gt, 2 + i, none⟩ v') (upd v i v') (upd L i (L i ++ [x])) := by
  obtain ⟨r1, r2⟩ := h.rows (by omega) hg ho hat gt (2 + i) h.l1
  obtain ⟨k1, k2, k3, k4, k5⟩ := h.grown (by omega) hg
  refine ⟨k1.put _ _ (upd3 hi _ _ _), ?_, r1, r2, h.ne, h.l1, h.l2, h.b1, h.b2, k3.setCell (p := ⟨gt, 2 + i, none⟩) h.b1 _, fun g t cs a n1 n2 => (k4 g t cs a n1 n2).far (p := ⟨gt, 2 + i, none⟩) n1 _, by rw [World.size_setCell]; exact k5⟩
  rw [upd_ne _ _ (show 3 ≠ i by omega), upd_ne _ _ (show 4 ≠ i by omega), upd_ne _ _ (show 5 ≠ i by omega)]
  exact k2.far (p := ⟨gt, 2 + i, none⟩) (Ne.symm h.ne) _

theorem M6.appD (h : M6 b gt gd F T W0 Wy W v L) {i : Nat} (hi : i < 3) {x : Int} {o : Obj} {v' : Value} (hg : (W.alloc o).grownBy W1 (v (3 + i)).ownBlock) (ho : OwV W1 Wy.heap.size 2 v' (cI (L (3 + i)) ++ [.int .i64 x]))
    (hat : v'.ownBlock = (v (3 + i)).ownBlock ∨ v'.ownBlock = some (W.alloc o).heap.size) : M6 b gt gd F T W0 Wy (W1.setCell ⟨gd, 2 + i, none⟩ v') (upd v (3 + i) v') (upd L (3 + i) (L (3 + i) ++ [x])) := by
  obtain ⟨r1, r2⟩ := h.rows (by omega) hg ho hat gd (2 + i) h.l2
  obtain ⟨k1, k2, k3, k4, k5⟩ := h.grown (by omega) hg
  refine ⟨?_, k2.put _ _ (upd3' hi _ _ _), r1, r2, h.ne, h.l1, h.l2, h.b1, h.b2, k3.setCell (p := ⟨gd, 2 + i, none⟩) h.b2 _, fun g t cs a n1 n2 => (k4 g t cs a n1 n2).far (p := ⟨gd, 2 + i, none⟩) n2 _, by rw [World.size_setCell]; exact k5⟩
  rw [upd_ne _ _ (show 0 ≠ 3 + i by omega), upd_ne _ _ (show 1 ≠ 3 + i by omega), upd_ne _ _ (show 2 ≠ 3 + i by omega)]
  exact k1.far (p := ⟨gd, 2 + i, none⟩) h.ne _

theorem M6.cellT (h : M6 b gt gd F T W0 Wy W v L) {i : Nat} (hi : i < 3) : W.cell? ⟨gt, 2 + i, none⟩ = some (v i) ∧ W.frozen? ⟨gt, 2 + i, none⟩ = false := by
  refine ⟨?_, h.kt.frozen _⟩
  obtain rfl | rfl | rfl : i = 0 ∨ i = 1 ∨ i = 2 := by omega
  all_goals exact h.kt.at_ _ rfl

theorem M6.cellD (h : M6 b gt gd F T W0 Wy W v L) {i : Nat} (hi : i < 3) : W.cell? ⟨gd, 2 + i, none⟩ = some (v (3 + i)) ∧ W.frozen? ⟨gd, 2 + i, none⟩ = false := by
  refine ⟨?_, h.kd.frozen _⟩
  obtain rfl | rfl | rfl : i = 0 ∨ i = 1 ∨ i = 2 := by omega
  all_goals exact h.kd.at_ _ rfl

/-- .. behind an append, ahead of the store. -/
theorem M6.midT (h : M6 b gt gd F T W0 Wy W v L) {i : Nat} (hi : i < 3) {o : Obj} (hg : (W.alloc o).grownBy W1 (v i).ownBlock) : W1.cell? ⟨gt, 2 + i, none⟩ = some (v i) ∧ W1.frozen? ⟨gt, 2 + i, none⟩ = false := by
  have k := (h.grown (by omega) hg).1
  refine ⟨?_, k.frozen _⟩
  obtain rfl | rfl | rfl : i = 0 ∨ i = 1 ∨ i = 2 := by omega
  all_goals exact k.at_ _ rfl

theorem M6.midD (h : M6 b gt gd F T W0 Wy W v L) {i : Nat} (hi : i < 3) {o : Obj} (hg : (W.alloc o).grownBy W1 (v (3 + i)).ownBlock) : W1.cell? ⟨gd, 2 + i, none⟩ = some (v (3 + i)) ∧ W1.frozen? ⟨gd, 2 + i, none⟩ = false := by
  have k := (h.grown (by omega) hg).2.1
  refine ⟨?_, k.frozen _⟩
  obtain rfl | rfl | rfl : i = 0 ∨ i = 1 ∨ i = 2 := by omega
  all_goals exact k.at_ _ rfl

end
theorem LS_len (s : SG) {i k : Nat} (hi : i < 3) (hk : k ≤ (s.l i).length) : (cI (LS s i k i)).length = k ∧ (cI (LS s i k (3 + i))).length = k := by
  obtain ⟨e1, e2⟩ := LS_at s hi k
  rw [cI_length, cI_length, e1, e2, trnL_len, dblL_len, List.length_take]
  omega

/-- A coefficient as EphemMirror takes it. -/
def lim49 (c : Int) : Prop := -562949953421312 ≤ c ∧ c ≤ 562949953421312

def Hf (s : SG) (i k : Nat) : Prop := (∀ m, m < i → ∀ j, lim49 ((s.l m).getD j 0)) ∧ ∀ j, j < k → lim49 ((s.l i).getD j 0)

theorem Hf.zero (s : SG) : Hf s 0 0 := ⟨fun m h => by omega, fun j h => by omega⟩

theorem Hf.step {s : SG} {i k : Nat} (h : Hf s i k) (hk : lim49 ((s.l i).getD k 0)) : Hf s i (k + 1) := ⟨h.1, fun j hj => by
  by_cases e : j = k
  · subst e; exact hk
  · exact h.2 j (by omega)⟩

theorem Hf.next {s : SG} {i : Nat} (h : Hf s i (s.l i).length) : Hf s (i + 1) 0 := ⟨fun m hm j => by
  by_cases e : m = i
  · subst e
    by_cases hj : j < (s.l m).length
    · exact h.2 j hj
    · rw [List.getD_eq_getElem?_getD, List.getElem?_eq_none (by omega)]
      exact ⟨by decide, by decide⟩
  · exact h.1 m (by omega) j, fun j h => by omega⟩

theorem lim_mem {l : List Int} (h : ∀ j, lim49 (l.getD j 0)) : (∀ x ∈ trnL l, lim49 x) ∧ ∀ x ∈ dblL l, -1125899906842624 ≤ x ∧ x ≤ 1125899906842624 := by
  constructor
  · intro x hx
    unfold trnL at hx
    rw [List.mem_mapIdx] at hx
    obtain ⟨i, hi, rfl⟩ := hx
    have := h i
    rw [List.getD_eq_getElem?_getD, List.getElem?_eq_getElem hi] at this
    unfold lim49 at *
    simp only [Option.getD_some] at this
    split <;> omega
  · intro x hx
    unfold dblL at hx
    obtain ⟨c, hc, rfl⟩ := List.mem_map.1 hx
    obtain ⟨i, hi, rfl⟩ := List.getElem_of_mem hc
    have := h i
    rw [List.getD_eq_getElem?_getD, List.getElem?_eq_getElem hi] at this
    unfold lim49 at this
    simp only [Option.getD_some] at this
    omega

theorem lim_list {l : List Int} (h : ∀ j, lim49 (l.getD j 0)) (h0 : listB l = true) : listB (trnL l) = true ∧ listB (dblL l) = true ∧ In64 (trnL l) ∧ In64 (dblL l) := by
  obtain ⟨h1, h2⟩ := lim_mem h
  have hp := list_pos h0
  refine ⟨listB_good (by rw [trnL_len]; exact hp) (fun n hn => ?_), listB_good (by rw [dblL_len]; exact hp) (fun n hn => ?_), fun x hx => ?_, fun x hx => ?_⟩
  · have := h1 n hn
    unfold lim49 at this
    unfold outB
    rw [decide_eq_false (by omega), decide_eq_false (by omega)]; rfl
  · have := h2 n hn
    unfold outB
    rw [decide_eq_false (by omega), decide_eq_false (by omega)]; rfl
  · have := h1 x hx; unfold lim49 at this; omega
  · have := h2 x hx; omega

/-- The two segments, when all is appended. -/
structure MF (s r d : SG) (gt gd : Nat) (W : World) : Prop where
  mi : Mir s r
  db : Dbl s d
  kt : BlkV W gt 31 #[.int .i64 r.F, .int .i64 r.T, .slice r.A0 r.l0.length r.c0, .slice r.A1 r.l1.length r.c1, .slice r.A2 r.l2.length r.c2]
  kd : BlkV W gd 31 #[.int .i64 d.F, .int .i64 d.T, .slice d.A0 d.l0.length d.c0, .slice d.A1 d.l1.length d.c1, .slice d.A2 d.l2.length d.c2]
  or : OkS W W.heap.size r
  od : OkS W W.heap.size d
  vr : OkSeg r
  vd : OkSeg d

theorem M6.fin {b gt gd : Nat} {W0 Wy W : World} {v : Nat → Value} {s : SG} (h : M6 b gt gd s.F s.T W0 Wy W v (LS s 3 0)) (hf : Hf s 3 0) (ok : OkSeg s) : ∃ r d, MF s r d gt gd W := by
  obtain ⟨p1, p2, p3, p4, p5, q0, q1, q2⟩ := seg_parts ok
  have hn := fun m (hm : m < 3) => hf.1 m hm
  have key : ∀ j, j < 6 → ∃ A c, v j = .slice A (LS s 3 0 j).length c ∧ (In64 (LS s 3 0 j) → (LS s 3 0 j).length ≤ 6 → SlI W W.heap.size A (LS s 3 0 j) c) := fun j hj => by
    obtain ⟨A, c, e, hc⟩ := (h.ow j hj).form
    have h1 := h.ow j hj
    rw [e] at h1
    have h2 := h1.rd
    rw [cI_length] at e hc
    exact ⟨A, c, e, fun a b => ⟨h2, a, hc, by omega⟩⟩
  have E : ∀ j, j < 3 → LS s 3 0 j = trnL (s.l j) ∧ LS s 3 0 (3 + j) = dblL (s.l j) := fun j hj => LS_end s hj
  have l0 : s.l 0 = s.l0 := rfl
  have l1 : s.l 1 = s.l1 := rfl
  have l2 : s.l 2 = s.l2 := rfl
  obtain ⟨A0, c0, e0, z0⟩ := key 0 (by omega)
  obtain ⟨A1, c1, e1, z1⟩ := key 1 (by omega)
  obtain ⟨A2, c2, e2, z2⟩ := key 2 (by omega)
  obtain ⟨A3, c3, e3, z3⟩ := key 3 (by omega)
  obtain ⟨A4, c4, e4, z4⟩ := key 4 (by omega)
  obtain ⟨A5, c5, e5, z5⟩ := key 5 (by omega)
  rw [(E 0 (by omega)).1, l0] at e0 z0
  rw [(E 1 (by omega)).1, l1] at e1 z1
  rw [(E 2 (by omega)).1, l2] at e2 z2
  rw [show (3 : Nat) = 3 + 0 from rfl, (E 0 (by omega)).2, l0] at e3 z3
  rw [show (4 : Nat) = 3 + 1 from rfl, (E 1 (by omega)).2, l1] at e4 z4
  rw [show (5 : Nat) = 3 + 2 from rfl, (E 2 (by omega)).2, l2] at e5 z5
  have m0 := lim_list (l := s.l0) (hn 0 (by omega)) q0
  have m1 := lim_list (l := s.l1) (hn 1 (by omega)) q1
  have m2 := lim_list (l := s.l2) (hn 2 (by omega)) q2
  have n0 := ok.n0
  have n1 := ok.n1
  have n2 := ok.n2
  have kt := h.kt
  have kd := h.kd
  rw [e0, e1, e2] at kt
  rw [show v 3 = _ from e3, show v 4 = _ from e4, show v 5 = _ from e5] at kd
  have sb : ∀ a b c, listB a = true → listB b = true → listB c = true → ∀ A0 c0 A1 c1 A2 c2, segB ⟨s.F, s.T, A0, a, c0, A1, b, c1, A2, c, c2⟩ = true := fun a b c ha hb hc _ _ _ _ _ _ => by
    have hv := ok.v
    unfold segB at hv ⊢
    simp only [Bool.and_eq_true] at hv ⊢
    exact ⟨⟨⟨hv.1.1.1, ha⟩, hb⟩, hc⟩
  refine ⟨⟨s.F, s.T, A0, trnL s.l0, c0, A1, trnL s.l1, c1, A2, trnL s.l2, c2⟩, ⟨s.F, s.T, A3, dblL s.l0, c3, A4, dblL s.l1, c4, A5, dblL s.l2, c5⟩, ⟨rfl, rfl, rfl, rfl, rfl⟩, ⟨rfl, rfl, rfl, rfl, rfl⟩, kt, kd, ?_, ?_, ?_, ?_⟩
  · exact ⟨z0 m0.2.2.1 (by rw [trnL_len]; exact n0), z1 m1.2.2.1 (by rw [trnL_len]; exact n1), z2 m2.2.2.1 (by rw [trnL_len]; exact n2), by show _ ≤ s.F; omega, by show s.F ≤ _; omega, by show _ ≤ s.T; omega, by show s.T ≤ _; omega⟩
  · exact ⟨z3 m0.2.2.2 (by rw [dblL_len]; exact n0), z4 m1.2.2.2 (by rw [dblL_len]; exact n1), z5 m2.2.2.2 (by rw [dblL_len]; exact n2), by show _ ≤ s.F; omega, by show s.F ≤ _; omega, by show _ ≤ s.T; omega, by show s.T ≤ _; omega⟩
  · exact ⟨sb _ _ _ m0.1 m1.1 m2.1 _ _ _ _ _ _, by show (trnL s.l0).length ≤ 6; rw [trnL_len]; exact n0, by show (trnL s.l1).length ≤ 6; rw [trnL_len]; exact n1, by show (trnL s.l2).length ≤ 6; rw [trnL_len]; exact n2⟩
  · exact ⟨sb _ _ _ m0.2.1 m1.2.1 m2.2.1 _ _ _ _ _ _, by show (dblL s.l0).length ≤ 6; rw [dblL_len]; exact n0, by show (dblL s.l1).length ≤ 6; rw [dblL_len]; exact n1, by show (dblL s.l2).length ≤ 6; rw [dblL_len]; exact n2⟩

/-- The ephemeris of the two lies there. -/
theorem MF.eph {s r d : SG} {gt gd g1 g2 g3 : Nat} {W W' : World} (h : MF s r d gt gd W) (hb : Below W.heap.size W W') (t1 t2 t3 : TypeId)
    (k1 : BlkV W' g1 t1 #[.int .i64 r.F, .int .i64 r.T, .slice r.A0 r.l0.length r.c0, .slice r.A1 r.l1.length r.c1, .slice r.A2 r.l2.length r.c2]) (k2 : BlkV W' g2 t2 #[.int .i64 d.F, .int .i64 d.T, .slice d.A0 d.l0.length d.c0, .slice d.A1 d.l1.length d.c1, .slice d.A2 d.l2.length d.c2])
    (k3 : BlkV W' g3 t3 #[.string ⟨#[97]⟩, .int .i64 0, .int .i64 0, .slice (some ⟨g1, 0, none⟩) 1 1, .string ⟨#[98]⟩, .int .i64 0, .int .i64 0, .slice (some ⟨g2, 0, none⟩) 1 1]) :
    SlB W' W'.heap.size (some ⟨g3, 0, none⟩) (mBs (some ⟨g1, 0, none⟩) (some ⟨g2, 0, none⟩) r d) 2 := by
  have more : ∀ {x : SG}, OkS W W.heap.size x → OkS W' W'.heap.size x := fun {x} o => ⟨(o.i0.below hb).here, (o.i1.below hb).here, (o.i2.below hb).here, o.f1, o.f2, o.t1, o.t2⟩
  have s1 : SlS W' W'.heap.size (some ⟨g1, 0, none⟩) [r] 1 := sls_one (s := r) k1 (more h.or)
  have s2 : SlS W' W'.heap.size (some ⟨g2, 0, none⟩) [d] 1 := sls_one (s := d) k2 (more h.od)
  have k3' : BlkV W' g3 t3 ((mBs (some ⟨g1, 0, none⟩) (some ⟨g2, 0, none⟩) r d).flatMap BG.cells).toArray := k3
  refine ⟨(RdV.of_blk k3').here, fun x hx => ?_, by show (2 : Nat) ≤ 2; decide, by show (2 : Nat) ≤ _; decide⟩
  unfold mBs at hx
  simp only [List.mem_cons, List.not_mem_nil, or_false] at hx
  rcases hx with rfl | rfl
  · exact ⟨s1, by show (1 : Nat) ≤ _; decide, by show (_ : Int) ≤ 0; decide, by show (0 : Int) ≤ _; decide, by show (_ : Int) ≤ 0; decide, by show (0 : Int) ≤ _; decide⟩
  · exact ⟨s2, by show (1 : Nat) ≤ _; decide, by show (_ : Int) ≤ 0; decide, by show (0 : Int) ≤ _; decide, by show (_ : Int) ≤ 0; decide, by show (0 : Int) ≤ _; decide⟩

theorem spR_e (s : SG) (t : Int) : (spR s t).2 = 0 ∨ (spR s t).2 = 16 := by unfold spR allV; split <;> simp

theorem gr_few {x : SG} (o : OkSeg x) : grS x = false := by
  have h0 := o.n0
  have h1 := o.n1
  have h2 := o.n2
  unfold grS grL
  simp only [Bool.or_eq_false_iff, Bool.and_eq_false_iff, decide_eq_false_iff_not]
  omega

theorem mBs_gr {A1 A2 : Option Addr} {r d : SG} (hr : OkSeg r) (hd : OkSeg d) : grE (mBs A1 A2 r d) = false := by
  have e1 : grBd (mB [97] A1 r) = false := by unfold grBd; simp [mB, gr_few hr, grL]
  have e2 : grBd (mB [98] A2 d) = false := by unfold grBd; simp [mB, gr_few hd, grL]
  unfold grE mBs
  rw [List.any_cons, List.any_cons, List.any_nil, e1, e2]
  rfl

/-- What the two answer. -/
theorem MF.ans {s r d : SG} {gt gd : Nat} {W : World} (h : MF s r d gt gd W) (ok : OkSeg s) {A1 A2 : Option Addr} {t : Int} (h1 : s.F ≤ t) (h2 : t ≤ s.T) :
    grE (mBs A1 A2 r d) = false ∧ plE (mBs A1 A2 r d) 0 (s.F + s.T - t) = (plV s t, 0) ∧ plE (mBs A1 A2 r d) 1 t = (plV d t, 0) ∧ spE (mBs A1 A2 r d) 0 (s.F + s.T - t) = (if (spR s t).2 = 0 then (negV (spR s t).1, 0) else (zV6, 16)) ∧
      Has ⟨2 * (plV s t).l0, 2 * (plV s t).h0, 2 * (plV s t).l1, 2 * (plV s t).h1, 2 * (plV s t).l2, 2 * (plV s t).h2⟩ (plV d t) := by
  have few : ∀ {x : SG}, OkSeg x → manyS x = false := fun {x} o => by
    have := o.n0; have := o.n1; have := o.n2
    unfold manyS
    rw [decide_eq_false (by omega), decide_eq_false (by omega), decide_eq_false (by omega)]; rfl
  have hc : chkE (mBs A1 A2 r d) = 0 := mBs_chk h.vr.v h.vd.v (few h.vr) (few h.vd)
  have hs := (seg_parts ok).1
  have hm := h.mi
  have hd := h.db
  have gs : ∀ {x : SG}, OkSeg x → (mB [97] A1 x).ss.length = 1 := fun _ => rfl
  obtain ⟨a1, a2⟩ := first_pl (bs := mBs A1 A2 r d) (k := 0) (t := s.F + s.T - t) hc (by show 0 < 2; decide) (by show 0 < 1; decide) (by show r.F ≤ _; rw [hm.f]; omega) (by show _ ≤ r.T; rw [hm.t]; omega)
  obtain ⟨b1, -⟩ := first_pl (bs := mBs A1 A2 r d) (k := 1) (t := t) hc (by show 1 < 2; decide) (by show 0 < 1; decide) (by show d.F ≤ _; rw [hd.f]; omega) (by show _ ≤ d.T; rw [hd.t]; omega)
  obtain ⟨-, -, -, -, -, q0, q1, q2⟩ := seg_parts ok
  obtain ⟨-, -, -, -, -, u0, u1, u2⟩ := seg_parts h.vd
  refine ⟨mBs_gr h.vr h.vd, ?_, b1, ?_, dbl_pl hd hs ⟨q0, q1, q2⟩ ⟨u0, u1, u2⟩ ok.n0 ok.n1 ok.n2 h1 h2⟩
  · refine a1.trans ?_
    show (plV r _, (0 : Int)) = _
    rw [mir_pl hm hs]
  · refine a2.trans ?_
    exact mir_sp hm hs t

end Go.Proofs.Ytghallnooijfhaa

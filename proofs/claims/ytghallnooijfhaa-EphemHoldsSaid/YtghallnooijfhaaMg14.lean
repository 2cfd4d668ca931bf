import Derived.Test.YtghallnooijfhaaEphH
import Derived.Test.YtghallnooijfhaaMg13
import Derived.Test.YtghallnooijfhaaMg6
import Derived.Test.YtghallnooijfhaaEphE
import Derived.Test.YtghallnooijfhaaMg5
import Derived.Test.YtghallnooijfhaaMg10
import Derived.Test.YtghallnooijfhaaEphSw
import Derived.Test.YtghallnooijfhaaMg12
import Derived.Test.YtghallnooijfhaaMg11
import Derived.Test.YtghallnooijfhaaEphDu
import Derived.Test.YtghallnooijfhaaEphL
import Derived.Test.YtghallnooijfhaaMg3
namespace Go.Proofs.Ytghallnooijfhaa
open Go.RowKit
attribute [local go_sem ↓] Go.wp_at_zero Go.wp_at_succ
/-- Whether two vectors are the same. -/
def eqV (v u : V6) : Bool := (v.l0 == u.l0 && v.h0 == u.h0) && ((v.l1 == u.l1 && v.h1 == u.h1) && (v.l2 == u.l2 && v.h2 == u.h2))

theorem eqV_iff (v u : V6) : eqV v u = true ↔ v = u := by
  cases v; cases u
  simp [eqV, and_assoc]

theorem eqV_self (v : V6) : eqV v v = true := (eqV_iff v v).2 rfl

theorem iv_eqlIn (d : Nat) (a b c e : Int) (W : World) : (Op.equalIn (d + 2) 36 (.agg #[.int .i64 a, .int .i64 b]) (.agg #[.int .i64 c, .int .i64 e])).run Try.prog W = .ok (a == c && b == e) W := by
  rw [run_equalIn_struct W (d + 1) 36 _ _ (by kernel_rfl) (by kernel_rfl)]
  unfold Program.fieldsOf
  rw [Try.underlying36]
  cases h1 : (a == c) <;> cases h2 : (b == e) <;> simp [Op.eqFields, go_sem, h1, h2]

set_option maxRecDepth 100000 in
theorem vec_eqlIn (v u : V6) (W : World) : (Op.equalIn 10000 38 (.agg #[.int .i64 v.l0, .int .i64 v.h0, .int .i64 v.l1, .int .i64 v.h1, .int .i64 v.l2, .int .i64 v.h2]) (.agg #[.int .i64 u.l0, .int .i64 u.h0, .int .i64 u.l1, .int .i64 u.h1, .int .i64 u.l2, .int .i64 u.h2])).run Try.prog W = .ok (eqV v u) W := by
  obtain ⟨a, b, c, d, e, f⟩ := v
  obtain ⟨g, h, i, j, k, l⟩ := u
  unfold Op.equalIn
  simp only [Sem.run_bind, run_underlying Try.underlying38, Result.andThen_ok]
  have hs : (sizeOf 36).run Try.prog W = .ok 2 W := by kernel_rfl
  have hp : ∀ (x y z u v r : Int) (n : Nat) (p q : Int), (n = 0 ∧ p = x ∧ q = y ∨ n = 2 ∧ p = z ∧ q = u ∨ n = 4 ∧ p = v ∧ q = r) → (part 36 #[.int .i64 x, .int .i64 y, .int .i64 z, .int .i64 u, .int .i64 v, .int .i64 r] n).run Try.prog W = .ok (.agg #[.int .i64 p, .int .i64 q]) W := by
    rintro x y z u v r n p q (⟨rfl, rfl, rfl⟩ | ⟨rfl, rfl, rfl⟩ | ⟨rfl, rfl, rfl⟩) <;> rfl
  rw [hs]
  simp only [Result.andThen_ok, Std.Legacy.Range.forIn_eq_forIn_range', Std.Legacy.Range.size]
  simp [List.range']
  rw [hp a b c d e f 0 a b (by simp)]
  simp only [Result.andThen_ok]
  rw [hp g h i j k l 0 g h (by simp)]
  simp only [Result.andThen_ok]
  rw [iv_eqlIn 9997]
  simp only [Result.andThen_ok]
  unfold eqV
  dsimp only
  cases (a == g && b == h) with
  | false => rfl
  | true =>
    rw [if_neg (by decide), hp a b c d e f 2 c d (by simp)]
    simp only [Result.andThen_ok]
    rw [hp g h i j k l 2 i j (by simp)]
    simp only [Result.andThen_ok]
    rw [iv_eqlIn 9997]
    simp only [Result.andThen_ok]
    cases (c == i && d == j) with
    | false => rfl
    | true =>
      rw [if_neg (by decide), hp a b c d e f 4 e f (by simp)]
      simp only [Result.andThen_ok]
      rw [hp g h i j k l 4 k l (by simp)]
      simp only [Result.andThen_ok]
      rw [iv_eqlIn 9997]
      simp only [Result.andThen_ok]
      cases (e == k && f == l) <;> rfl

def smS (a0 a1 a2 : Option Addr) : SG := ⟨0, 1000, a0, [5, 3], 2, a1, [0, 0, 4], 3, a2, [7], 1⟩

def smB (A1 a0 a1 a2 : Option Addr) : BG := ⟨[97], 3, 2, A1, [smS a0 a1 a2], 1⟩

theorem sm_chk (A1 a0 a1 a2 : Option Addr) : chkE [smB A1 a0 a1 a2] = 0 := by
  refine chkE_good (by show (1 : Nat) ≤ 12; decide) (fun b hb => by rw [List.mem_singleton] at hb; subst hb; rfl) ⟨fun k hk => ?_, fun k hk => ?_⟩
  · obtain rfl : k = 0 := by simpa using hk
    refine ⟨rfl, by show (0 : Int) ≤ 3; decide, by show (3 : Int) ≤ 1152921504606846976; decide, by show (0 : Int) ≤ 2; decide, by show (2 : Int) ≤ 1125899906842624; decide, by show 0 < 1; decide, fun j hj => ?_, fun j hj => by simp [smB] at hj⟩
    obtain rfl : j = 0 := by simpa [smB] using hj
    show segB (smS a0 a1 a2) = true
    simp [smS, segB, outB, listB]
  · obtain rfl : k = 0 := by simpa using hk
    rfl

theorem sm_gr (A1 a0 a1 a2 : Option Addr) : grE [smB A1 a0 a1 a2] = false := by rfl

theorem sm_pl (A1 a0 a1 a2 : Option Addr) : plE [smB A1 a0 a1 a2] 0 1000 = (⟨8, 8, 4, 4, 7, 7⟩, 0) ∧ plE [smB A1 a0 a1 a2] 0 500 = (⟨5, 5, -4, -4, 7, 7⟩, 0) ∧ spE [smB A1 a0 a1 a2] 0 500 = (⟨518400000, 518400000, 0, 0, 0, 0⟩, 0) := by
  have hc := sm_chk A1 a0 a1 a2
  have hg : getB [smB A1 a0 a1 a2] 0 = some (smB A1 a0 a1 a2) := rfl
  have s1 : segOf (smB A1 a0 a1 a2).ss 1000 = some (smS a0 a1 a2) := rfl
  have s2 : segOf (smB A1 a0 a1 a2).ss 500 = some (smS a0 a1 a2) := rfl
  have u1 : unS (vlQ [5, 3] (Rat.divInt 1000 1000)) = (8, 8, 0) := by kernel_rfl
  have u2 : unS (vlQ [0, 0, 4] (Rat.divInt 1000 1000)) = (4, 4, 0) := by kernel_rfl
  have u3 : unS (vlQ [7] (Rat.divInt 1000 1000)) = (7, 7, 0) := by kernel_rfl
  have v1 : unS (vlQ [5, 3] (Rat.divInt 0 1000)) = (5, 5, 0) := by kernel_rfl
  have v2 : unS (vlQ [0, 0, 4] (Rat.divInt 0 1000)) = (-4, -4, 0) := by kernel_rfl
  have v3 : unS (vlQ [7] (Rat.divInt 0 1000)) = (7, 7, 0) := by kernel_rfl
  have w1 : unS (spQ [5, 3] (Rat.divInt 0 1000) * Rat.divInt 172800000000 1000) = (518400000, 518400000, 0) := by kernel_rfl
  have w2 : unS (spQ [0, 0, 4] (Rat.divInt 0 1000) * Rat.divInt 172800000000 1000) = (0, 0, 0) := by kernel_rfl
  have w3 : unS (spQ [7] (Rat.divInt 0 1000) * Rat.divInt 172800000000 1000) = (0, 0, 0) := by kernel_rfl
  refine ⟨?_, ?_, ?_⟩
  · unfold plE lkE
    rw [if_pos hc, hg]
    simp only [s1]
    have : plV (smS a0 a1 a2) 1000 = ⟨(unS (vlQ [5, 3] (Rat.divInt 1000 1000))).1, (unS (vlQ [5, 3] (Rat.divInt 1000 1000))).2.1, (unS (vlQ [0, 0, 4] (Rat.divInt 1000 1000))).1, (unS (vlQ [0, 0, 4] (Rat.divInt 1000 1000))).2.1, (unS (vlQ [7] (Rat.divInt 1000 1000))).1, (unS (vlQ [7] (Rat.divInt 1000 1000))).2.1⟩ := rfl
    rw [this, u1, u2, u3]
  · unfold plE lkE
    rw [if_pos hc, hg]
    simp only [s2]
    have : plV (smS a0 a1 a2) 500 = ⟨(unS (vlQ [5, 3] (Rat.divInt 0 1000))).1, (unS (vlQ [5, 3] (Rat.divInt 0 1000))).2.1, (unS (vlQ [0, 0, 4] (Rat.divInt 0 1000))).1, (unS (vlQ [0, 0, 4] (Rat.divInt 0 1000))).2.1, (unS (vlQ [7] (Rat.divInt 0 1000))).1, (unS (vlQ [7] (Rat.divInt 0 1000))).2.1⟩ := rfl
    rw [this, v1, v2, v3]
  · unfold spE lkE
    rw [if_pos hc, hg]
    simp only [s2]
    have : spR (smS a0 a1 a2) 500 = allV (unS (spQ [5, 3] (Rat.divInt 0 1000) * Rat.divInt 172800000000 1000)) (unS (spQ [0, 0, 4] (Rat.divInt 0 1000) * Rat.divInt 172800000000 1000)) (unS (spQ [7] (Rat.divInt 0 1000) * Rat.divInt 172800000000 1000)) := rfl
    rw [this, w1, w2, w3]
    rfl

set_option maxRecDepth 100000 in
set_option maxHeartbeats 8000000 in
theorem point_any (n : Int) (w : World) : Calls Try.prog 14 #[.int .i64 n] w fun e w' => e = .returned (.agg #[.int .i64 n, .int .i64 n]) ∧ Below w.heap.size w w' := by
  go_enter Try.func14, Try.ntmps14
  go_wp2
  exact bodyPost_ret (v := .agg #[.int .i64 n, .int .i64 n]) (by simp [results, Try.results14, go_sem]) rfl ⟨rfl, blw1 _ _⟩

theorem sli_blk {w : World} {g : Nat} {t : TypeId} {l : List Int} (h : BlkV w g t (cI l).toArray) (hl : In64 l) (hn : l.length ≤ 17592186044416) : SlI w w.heap.size (some ⟨g, 0, none⟩) l l.length :=
  ⟨(RdV.of_blk h).here, hl, Nat.le_refl _, hn⟩

theorem sls_one {w : World} {g : Nat} {t : TypeId} {s : SG} (h : BlkV w g t s.cells.toArray) (ok : OkS w w.heap.size s) : SlS w w.heap.size (some ⟨g, 0, none⟩) [s] 1 :=
  ⟨by have := (RdV.of_blk h).here; simpa using this, fun x hx => by rw [List.mem_singleton] at hx; subst hx; exact ok, by simp, by simp⟩

theorem slb_one {w : World} {g : Nat} {t : TypeId} {b : BG} (h : BlkV w g t b.cells.toArray) (ok : OkB w w.heap.size b) : SlB w w.heap.size (some ⟨g, 0, none⟩) [b] 1 :=
  ⟨by have := (RdV.of_blk h).here; simpa using this, fun x hx => by rw [List.mem_singleton] at hx; subst hx; exact ok, by simp, by simp⟩

theorem in64_small {l : List Int} (h : l.all (fun x => decide (-1000 ≤ x) && decide (x ≤ 1000)) = true) : In64 l := fun x hx => by
  have := List.all_eq_true.1 h x hx
  simp only [Bool.and_eq_true, decide_eq_true_eq] at this
  omega

set_option maxRecDepth 100000 in
set_option maxHeartbeats 8000000 in
theorem small_any (w : World) : Calls Try.prog 13 #[] w fun e w' => ∃ A c A1 a0 a1 a2, e = .returned (.agg #[.slice A 1 c]) ∧ SlB w' w'.heap.size A [smB A1 a0 a1 a2] c ∧ Below w.heap.size w w' := by
  go_enter Try.func13, Try.ntmps13
  go_wp2
  refine bodyPost_ret (v := .agg #[.slice (some ⟨w.heap.size + 1 + 1 + 1 + 1 + 1 + 1, 0, none⟩) 1 1]) (by simp [results, Try.results13, go_sem]) rfl ?_
  generalize hW : ((((((w.alloc (.cells #[.slice (some ⟨w.heap.size + 1 + 1 + 1 + 1 + 1 + 1, 0, none⟩) 1 1] 24)).alloc _).alloc _).alloc _).alloc _).alloc _).alloc _ = W
  have b1 : BlkV W (w.heap.size + 1) 2 (cI [5, 3]).toArray := by rw [← hW]; exact (((((BlkV.fresh (by simp) _ _).alloc _).alloc _).alloc _).alloc _).alloc _
  have b2 : BlkV W (w.heap.size + 1 + 1) 2 (cI [0, 0, 4]).toArray := by rw [← hW]; exact ((((BlkV.fresh (by simp) _ _).alloc _).alloc _).alloc _).alloc _
  have b3 : BlkV W (w.heap.size + 1 + 1 + 1) 2 (cI [7]).toArray := by rw [← hW]; exact (((BlkV.fresh (by simp) _ _).alloc _).alloc _).alloc _
  have b5 : BlkV W (w.heap.size + 1 + 1 + 1 + 1 + 1) 31 (smS (some ⟨w.heap.size + 1, 0, none⟩) (some ⟨w.heap.size + 1 + 1, 0, none⟩) (some ⟨w.heap.size + 1 + 1 + 1, 0, none⟩)).cells.toArray := by rw [← hW]; exact (BlkV.fresh (by simp) _ _).alloc _
  have b6 : BlkV W (w.heap.size + 1 + 1 + 1 + 1 + 1 + 1) 34 (smB (some ⟨w.heap.size + 1 + 1 + 1 + 1 + 1, 0, none⟩) (some ⟨w.heap.size + 1, 0, none⟩) (some ⟨w.heap.size + 1 + 1, 0, none⟩) (some ⟨w.heap.size + 1 + 1 + 1, 0, none⟩)).cells.toArray := by rw [← hW]; exact BlkV.fresh (by simp) _ _
  have hb : Below w.heap.size w W := by rw [← hW]; exact below_mono (below_mono (below_mono (below_mono (below_mono (below_mono (blw1 _ _) (blw1 _ _)) (blw1 _ _)) (blw1 _ _)) (blw1 _ _)) (blw1 _ _)) (blw1 _ _)
  have ok : OkS W W.heap.size (smS (some ⟨w.heap.size + 1, 0, none⟩) (some ⟨w.heap.size + 1 + 1, 0, none⟩) (some ⟨w.heap.size + 1 + 1 + 1, 0, none⟩)) :=
    ⟨sli_blk b1 (in64_small rfl) (by simp [smS]), sli_blk b2 (in64_small rfl) (by simp [smS]), sli_blk b3 (in64_small rfl) (by simp [smS]), by simp [smS], by simp [smS], by simp [smS], by simp [smS]⟩
  exact ⟨_, 1, _, _, _, _, rfl, slb_one b6 ⟨sls_one b5 ok, by simp [smB], by simp [smB], by simp [smB], by simp [smB], by simp [smB]⟩, hb⟩

set_option maxRecDepth 100000 in
set_option maxHeartbeats 8000000 in
theorem alive_any (w : World) : Calls Try.prog 5 #[] w fun e w' => e = .returned (.bool true) ∧ Below w.heap.size w w' := by
  have B0 : Hid (Below w.heap.size w w) := Below.refl _ _
  go_enter Try.func5, Try.ntmps5
  go_wp2_with fail
  refine (small_any _).mono ?_
  rintro e u0 ⟨A, c, A1, a0, a1, a2, rfl, hs, hb⟩
  have HU := Lib.hid (below_mono B0.out hb)
  clear hb
  go_wp2_with fail
  refine (ePlace_any [smB A1 a0 a1 a2] A c u0.heap.size 0 1000 u0 hs (sm_gr _ _ _ _)).mono ?_
  rw [(sm_pl A1 a0 a1 a2).1]
  rintro e v0 ⟨rfl, hb⟩
  dsimp only
  have HV := Lib.hid (below_mono HU.out hb)
  clear hb hs HU
  go_upto_region 2 with fail
  generalize hw : v0.alloc (.cells #[.int .i64 8, .int .i64 8, .int .i64 4, .int .i64 4, .int .i64 7, .int .i64 7] 38) = x0 at *
  have B1 : Hid (Below w.heap.size w x0) := by rw [← hw]; exact below_mono HV.out (blw1 _ _)
  have KV0 : Hid (BlkV x0 v0.heap.size 38 #[.int .i64 8, .int .i64 8, .int .i64 4, .int .i64 4, .int .i64 7, .int .i64 7]) := by rw [← hw]; exact BlkV.fresh rfl _ _
  clear hw HV
  generalize v0.heap.size = g0 at *
  go_wp2_with fail
  refine (small_any _).mono ?_
  rintro e u1 ⟨A, c, A1, a0, a1, a2, rfl, hs, hb⟩
  have HU := Lib.hid (below_mono B1.out hb)
  replace KV0 := Lib.hid (KV0.out.keep hb)
  clear hb
  go_wp2_with fail
  refine (ePlace_any [smB A1 a0 a1 a2] A c u1.heap.size 0 500 u1 hs (sm_gr _ _ _ _)).mono ?_
  rw [(sm_pl A1 a0 a1 a2).2.1]
  rintro e v1 ⟨rfl, hb⟩
  dsimp only
  have HV := Lib.hid (below_mono HU.out hb)
  replace KV0 := Lib.hid (KV0.out.keep hb)
  clear hb hs HU
  go_upto_region 3 with fail
  generalize hw : v1.alloc (.cells #[.int .i64 5, .int .i64 5, .int .i64 (-4), .int .i64 (-4), .int .i64 7, .int .i64 7] 38) = x1 at *
  have B2 : Hid (Below w.heap.size w x1) := by rw [← hw]; exact below_mono HV.out (blw1 _ _)
  have KV1 : Hid (BlkV x1 v1.heap.size 38 #[.int .i64 5, .int .i64 5, .int .i64 (-4), .int .i64 (-4), .int .i64 7, .int .i64 7]) := by rw [← hw]; exact BlkV.fresh rfl _ _
  replace KV0 : Hid (BlkV x1 g0 38 #[.int .i64 8, .int .i64 8, .int .i64 4, .int .i64 4, .int .i64 7, .int .i64 7]) := by rw [← hw]; exact KV0.out.alloc _
  clear hw HV
  generalize v1.heap.size = g1 at *
  go_wp2_with fail
  refine (small_any _).mono ?_
  rintro e u2 ⟨A, c, A1, a0, a1, a2, rfl, hs, hb⟩
  have HU := Lib.hid (below_mono B2.out hb)
  replace KV0 := Lib.hid (KV0.out.keep hb)
  replace KV1 := Lib.hid (KV1.out.keep hb)
  clear hb
  go_wp2_with fail
  refine (eSpeed_any [smB A1 a0 a1 a2] A c u2.heap.size 0 500 u2 hs (sm_gr _ _ _ _)).mono ?_
  rw [(sm_pl A1 a0 a1 a2).2.2]
  rintro e v2 ⟨rfl, hb⟩
  dsimp only
  have HV := Lib.hid (below_mono HU.out hb)
  replace KV0 := Lib.hid (KV0.out.keep hb)
  replace KV1 := Lib.hid (KV1.out.keep hb)
  clear hb hs HU
  go_upto_region 4 with fail
  generalize hw : v2.alloc (.cells #[.int .i64 518400000, .int .i64 518400000, .int .i64 0, .int .i64 0, .int .i64 0, .int .i64 0] 38) = x2 at *
  have B3 : Hid (Below w.heap.size w x2) := by rw [← hw]; exact below_mono HV.out (blw1 _ _)
  have KV2 : Hid (BlkV x2 v2.heap.size 38 #[.int .i64 518400000, .int .i64 518400000, .int .i64 0, .int .i64 0, .int .i64 0, .int .i64 0]) := by rw [← hw]; exact BlkV.fresh rfl _ _
  replace KV0 : Hid (BlkV x2 g0 38 #[.int .i64 8, .int .i64 8, .int .i64 4, .int .i64 4, .int .i64 7, .int .i64 7]) := by rw [← hw]; exact KV0.out.alloc _
  replace KV1 : Hid (BlkV x2 g1 38 #[.int .i64 5, .int .i64 5, .int .i64 (-4), .int .i64 (-4), .int .i64 7, .int .i64 7]) := by rw [← hw]; exact KV1.out.alloc _
  clear hw HV
  generalize v2.heap.size = g2 at *
  have JS : Hid (∀ X, Below x2.heap.size x2 X → X.cell? ⟨g0, 0, none⟩ = some (.int .i64 8) ∧ X.cell? ⟨g0, 1, none⟩ = some (.int .i64 8) ∧ X.cell? ⟨g0, 2, none⟩ = some (.int .i64 4) ∧ X.cell? ⟨g0, 3, none⟩ = some (.int .i64 4) ∧ X.cell? ⟨g0, 4, none⟩ = some (.int .i64 7) ∧ X.cell? ⟨g0, 5, none⟩ = some (.int .i64 7) ∧ X.cell? ⟨g1, 0, none⟩ = some (.int .i64 5) ∧ X.cell? ⟨g1, 1, none⟩ = some (.int .i64 5) ∧ X.cell? ⟨g1, 2, none⟩ = some (.int .i64 (-4)) ∧ X.cell? ⟨g1, 3, none⟩ = some (.int .i64 (-4)) ∧ X.cell? ⟨g1, 4, none⟩ = some (.int .i64 7) ∧ X.cell? ⟨g1, 5, none⟩ = some (.int .i64 7) ∧ X.cell? ⟨g2, 0, none⟩ = some (.int .i64 518400000) ∧ X.cell? ⟨g2, 1, none⟩ = some (.int .i64 518400000) ∧ X.cell? ⟨g2, 2, none⟩ = some (.int .i64 0) ∧ X.cell? ⟨g2, 3, none⟩ = some (.int .i64 0) ∧ X.cell? ⟨g2, 4, none⟩ = some (.int .i64 0) ∧ X.cell? ⟨g2, 5, none⟩ = some (.int .i64 0)) := fun X h => ⟨(KV0.out.keep h).at_ 0 rfl, (KV0.out.keep h).at_ 1 rfl, (KV0.out.keep h).at_ 2 rfl, (KV0.out.keep h).at_ 3 rfl, (KV0.out.keep h).at_ 4 rfl, (KV0.out.keep h).at_ 5 rfl, (KV1.out.keep h).at_ 0 rfl, (KV1.out.keep h).at_ 1 rfl, (KV1.out.keep h).at_ 2 rfl, (KV1.out.keep h).at_ 3 rfl, (KV1.out.keep h).at_ 4 rfl, (KV1.out.keep h).at_ 5 rfl, (KV2.out.keep h).at_ 0 rfl, (KV2.out.keep h).at_ 1 rfl, (KV2.out.keep h).at_ 2 rfl, (KV2.out.keep h).at_ 3 rfl, (KV2.out.keep h).at_ 4 rfl, (KV2.out.keep h).at_ 5 rfl⟩
  have Y0 : Hid (Below x2.heap.size x2 x2.drew) := (Below.refl _ _).drew
  clear KV0 KV1 KV2
  have hq0 : ∀ W, (Op.equalIn 10000 38 (.agg #[.int .i64 8, .int .i64 8, .int .i64 4, .int .i64 4, .int .i64 7, .int .i64 7]) (.agg #[.int .i64 8, .int .i64 8, .int .i64 4, .int .i64 4, .int .i64 7, .int .i64 7])).run Try.prog W = .ok true W := fun W => by have h := vec_eqlIn ⟨8, 8, 4, 4, 7, 7⟩ ⟨8, 8, 4, 4, 7, 7⟩ W; rwa [eqV_self] at h
  have hq1 : ∀ W, (Op.equalIn 10000 38 (.agg #[.int .i64 5, .int .i64 5, .int .i64 (-4), .int .i64 (-4), .int .i64 7, .int .i64 7]) (.agg #[.int .i64 5, .int .i64 5, .int .i64 (-4), .int .i64 (-4), .int .i64 7, .int .i64 7])).run Try.prog W = .ok true W := fun W => by have h := vec_eqlIn ⟨5, 5, -4, -4, 7, 7⟩ ⟨5, 5, -4, -4, 7, 7⟩ W; rwa [eqV_self] at h
  have hq2 : ∀ W, (Op.equalIn 10000 38 (.agg #[.int .i64 518400000, .int .i64 518400000, .int .i64 0, .int .i64 0, .int .i64 0, .int .i64 0]) (.agg #[.int .i64 518400000, .int .i64 518400000, .int .i64 0, .int .i64 0, .int .i64 0, .int .i64 0])).run Try.prog W = .ok true W := fun W => by have h := vec_eqlIn ⟨518400000, 518400000, 0, 0, 0, 0⟩ ⟨518400000, 518400000, 0, 0, 0, 0⟩ W; rwa [eqV_self] at h
  refine wp_region_held_drew (S := fun w' => w'.cell? ⟨g0, 0, none⟩ = some (.int .i64 8) ∧ w'.cell? ⟨g0, 1, none⟩ = some (.int .i64 8) ∧ w'.cell? ⟨g0, 2, none⟩ = some (.int .i64 4) ∧ w'.cell? ⟨g0, 3, none⟩ = some (.int .i64 4) ∧ w'.cell? ⟨g0, 4, none⟩ = some (.int .i64 7) ∧ w'.cell? ⟨g0, 5, none⟩ = some (.int .i64 7) ∧ w'.cell? ⟨g1, 0, none⟩ = some (.int .i64 5) ∧ w'.cell? ⟨g1, 1, none⟩ = some (.int .i64 5) ∧ w'.cell? ⟨g1, 2, none⟩ = some (.int .i64 (-4)) ∧ w'.cell? ⟨g1, 3, none⟩ = some (.int .i64 (-4)) ∧ w'.cell? ⟨g1, 4, none⟩ = some (.int .i64 7) ∧ w'.cell? ⟨g1, 5, none⟩ = some (.int .i64 7) ∧ w'.cell? ⟨g2, 0, none⟩ = some (.int .i64 518400000) ∧ w'.cell? ⟨g2, 1, none⟩ = some (.int .i64 518400000) ∧ w'.cell? ⟨g2, 2, none⟩ = some (.int .i64 0) ∧ w'.cell? ⟨g2, 3, none⟩ = some (.int .i64 0) ∧ w'.cell? ⟨g2, 4, none⟩ = some (.int .i64 0) ∧ w'.cell? ⟨g2, 5, none⟩ = some (.int .i64 0)) (by kernel_rfl) (JS.out _ Y0.out) (fun hHeld => ?_)
  refine wpAnyH_take (i := 0) (v := .int .i64 0) rfl (by kernel_rfl) (by kernel_rfl) (by kernel_rfl) (fun _ _ _ h => h) (Or.inl ⟨by rfl, by intro w hSw; (try dsimp only at hSw); go_simp⟩) (by assumption) ?_
  (try simp only [Act.put, List.getElem_toArray, List.getElem_cons_zero, List.setIfInBounds_toArray, List.set_cons_zero, List.set_cons_succ])
  refine wpAnyH_take (i := 1) (v := .bool true) rfl (by kernel_rfl) (by kernel_rfl) (by kernel_rfl) (fun _ _ _ h => h) (Or.inl ⟨by rfl, by intro w hSw; (try dsimp only at hSw); go_simp⟩) (by assumption) ?_
  (try simp only [Act.put, List.getElem_toArray, List.getElem_cons_zero, List.getElem_cons_succ, List.setIfInBounds_toArray, List.set_cons_zero, List.set_cons_succ])
  refine wpAnyH_take (i := 2) (v := .bool true) rfl (by kernel_rfl) (by kernel_rfl) (by kernel_rfl) (fun _ _ _ h => h) (Or.inl ⟨by rfl, by intro w hSw; (try dsimp only at hSw); go_simp⟩) (by assumption) ?_
  (try simp only [Act.put, List.getElem_toArray, List.getElem_cons_zero, List.getElem_cons_succ, List.setIfInBounds_toArray, List.set_cons_zero, List.set_cons_succ])
  refine wpAnyH_take (i := 3) (v := .agg #[.int .i64 8, .int .i64 8, .int .i64 4, .int .i64 4, .int .i64 7, .int .i64 7]) rfl (by kernel_rfl) (by kernel_rfl) (by kernel_rfl) (fun _ _ _ h => h) (Or.inl ⟨by rfl, by intro w hSw; (try dsimp only at hSw); go_simp⟩) (by assumption) ?_
  (try simp only [Act.put, List.getElem_toArray, List.getElem_cons_zero, List.getElem_cons_succ, List.setIfInBounds_toArray, List.set_cons_zero, List.set_cons_succ])
  refine wpAnyH_ready (rs := [4]) (by kernel_rfl) (by simp) ?_
  refine AllReadyH.cons rfl (fun K hK => ?_) AllReadyH.nil
  go_simp
  (with_reducible refine (point_any 8 _).mono ?_)
  rintro e y1 ⟨rfl, hb⟩
  (try dsimp only)
  have Y1 := Lib.hid (below_mono Y0.out hb)
  clear hb
  (try go_wp2_with fail)
  refine hK.out _ _ (JS.out _ Y1.out) (fun hHeld2 => ?_)
  clear hK K hHeld
  have hHeld := hHeld2
  clear hHeld2
  (try simp only [Act.put, List.getElem_toArray, List.getElem_cons_zero, List.getElem_cons_succ, List.setIfInBounds_toArray, List.set_cons_zero, List.set_cons_succ])
  refine wpAnyH_ready (rs := [5]) (by kernel_rfl) (by simp) ?_
  refine AllReadyH.cons rfl (fun K hK => ?_) AllReadyH.nil
  go_simp
  (with_reducible refine (point_any 4 _).mono ?_)
  rintro e y2 ⟨rfl, hb⟩
  (try dsimp only)
  have Y2 := Lib.hid (below_mono Y1.out hb)
  clear hb
  (try go_wp2_with fail)
  refine hK.out _ _ (JS.out _ Y2.out) (fun hHeld2 => ?_)
  clear hK K hHeld
  have hHeld := hHeld2
  clear hHeld2
  (try simp only [Act.put, List.getElem_toArray, List.getElem_cons_zero, List.getElem_cons_succ, List.setIfInBounds_toArray, List.set_cons_zero, List.set_cons_succ])
  refine wpAnyH_ready (rs := [6]) (by kernel_rfl) (by simp) ?_
  refine AllReadyH.cons rfl (fun K hK => ?_) AllReadyH.nil
  go_simp
  (with_reducible refine (point_any 7 _).mono ?_)
  rintro e y3 ⟨rfl, hb⟩
  (try dsimp only)
  have Y3 := Lib.hid (below_mono Y2.out hb)
  clear hb
  (try go_wp2_with fail)
  refine hK.out _ _ (JS.out _ Y3.out) (fun hHeld2 => ?_)
  clear hK K hHeld
  have hHeld := hHeld2
  clear hHeld2
  (try simp only [Act.put, List.getElem_toArray, List.getElem_cons_zero, List.getElem_cons_succ, List.setIfInBounds_toArray, List.set_cons_zero, List.set_cons_succ])
  refine wpAnyH_take (i := 7) (v := .agg #[.int .i64 8, .int .i64 8, .int .i64 4, .int .i64 4, .int .i64 7, .int .i64 7]) rfl (by kernel_rfl) (by kernel_rfl) (by kernel_rfl) (fun _ _ _ h => h) (Or.inl ⟨by rfl, by intro w hSw; (try dsimp only at hSw); go_simp⟩) (by assumption) ?_
  (try simp only [Act.put, List.getElem_toArray, List.getElem_cons_zero, List.getElem_cons_succ, List.setIfInBounds_toArray, List.set_cons_zero, List.set_cons_succ])
  refine wpAnyH_take (i := 8) (v := .bool true) rfl (by kernel_rfl) (by kernel_rfl) (by kernel_rfl) (fun _ _ _ h => h) (Or.inl ⟨by rfl, by intro w hSw; (try dsimp only at hSw); go_simp⟩) (by assumption) ?_
  (try simp only [Act.put, List.getElem_toArray, List.getElem_cons_zero, List.getElem_cons_succ, List.setIfInBounds_toArray, List.set_cons_zero, List.set_cons_succ])
  refine wpAnyH_take (i := 9) (v := .bool true) rfl (by kernel_rfl) (by kernel_rfl) (by kernel_rfl) (fun _ _ _ h => h) (Or.inl ⟨by rfl, by intro w hSw; (try dsimp only at hSw); go_simp⟩) (by assumption) ?_
  (try simp only [Act.put, List.getElem_toArray, List.getElem_cons_zero, List.getElem_cons_succ, List.setIfInBounds_toArray, List.set_cons_zero, List.set_cons_succ])
  refine wpAnyH_take (i := 10) (v := .bool true) rfl (by kernel_rfl) (by kernel_rfl) (by kernel_rfl) (fun _ _ _ h => h) (Or.inl ⟨by rfl, by intro w hSw; (try dsimp only at hSw); go_simp⟩) (by assumption) ?_
  (try simp only [Act.put, List.getElem_toArray, List.getElem_cons_zero, List.getElem_cons_succ, List.setIfInBounds_toArray, List.set_cons_zero, List.set_cons_succ])
  refine wpAnyH_take (i := 11) (v := .int .i64 0) rfl (by kernel_rfl) (by kernel_rfl) (by kernel_rfl) (fun _ _ _ h => h) (Or.inl ⟨by rfl, by intro w hSw; (try dsimp only at hSw); go_simp⟩) (by assumption) ?_
  (try simp only [Act.put, List.getElem_toArray, List.getElem_cons_zero, List.getElem_cons_succ, List.setIfInBounds_toArray, List.set_cons_zero, List.set_cons_succ])
  refine wpAnyH_take (i := 12) (v := .bool true) rfl (by kernel_rfl) (by kernel_rfl) (by kernel_rfl) (fun _ _ _ h => h) (Or.inl ⟨by rfl, by intro w hSw; (try dsimp only at hSw); go_simp⟩) (by assumption) ?_
  (try simp only [Act.put, List.getElem_toArray, List.getElem_cons_zero, List.getElem_cons_succ, List.setIfInBounds_toArray, List.set_cons_zero, List.set_cons_succ])
  refine wpAnyH_take (i := 13) (v := .bool true) rfl (by kernel_rfl) (by kernel_rfl) (by kernel_rfl) (fun _ _ _ h => h) (Or.inl ⟨by rfl, by intro w hSw; (try dsimp only at hSw); go_simp⟩) (by assumption) ?_
  (try simp only [Act.put, List.getElem_toArray, List.getElem_cons_zero, List.getElem_cons_succ, List.setIfInBounds_toArray, List.set_cons_zero, List.set_cons_succ])
  refine wpAnyH_take (i := 14) (v := .bool true) rfl (by kernel_rfl) (by kernel_rfl) (by kernel_rfl) (fun _ _ _ h => h) (Or.inl ⟨by rfl, by intro w hSw; (try dsimp only at hSw); go_simp⟩) (by assumption) ?_
  (try simp only [Act.put, List.getElem_toArray, List.getElem_cons_zero, List.getElem_cons_succ, List.setIfInBounds_toArray, List.set_cons_zero, List.set_cons_succ])
  refine wpAnyH_take (i := 15) (v := .agg #[.int .i64 5, .int .i64 5, .int .i64 (-4), .int .i64 (-4), .int .i64 7, .int .i64 7]) rfl (by kernel_rfl) (by kernel_rfl) (by kernel_rfl) (fun _ _ _ h => h) (Or.inl ⟨by rfl, by intro w hSw; (try dsimp only at hSw); go_simp⟩) (by assumption) ?_
  (try simp only [Act.put, List.getElem_toArray, List.getElem_cons_zero, List.getElem_cons_succ, List.setIfInBounds_toArray, List.set_cons_zero, List.set_cons_succ])
  refine wpAnyH_ready (rs := [16]) (by kernel_rfl) (by simp) ?_
  refine AllReadyH.cons rfl (fun K hK => ?_) AllReadyH.nil
  go_simp
  (with_reducible refine (point_any 5 _).mono ?_)
  rintro e y4 ⟨rfl, hb⟩
  (try dsimp only)
  have Y4 := Lib.hid (below_mono Y3.out hb)
  clear hb
  (try go_wp2_with fail)
  refine hK.out _ _ (JS.out _ Y4.out) (fun hHeld2 => ?_)
  clear hK K hHeld
  have hHeld := hHeld2
  clear hHeld2
  (try simp only [Act.put, List.getElem_toArray, List.getElem_cons_zero, List.getElem_cons_succ, List.setIfInBounds_toArray, List.set_cons_zero, List.set_cons_succ])
  refine wpAnyH_ready (rs := [17]) (by kernel_rfl) (by simp) ?_
  refine AllReadyH.cons rfl (fun K hK => ?_) AllReadyH.nil
  go_simp
  (with_reducible refine (point_any (-4) _).mono ?_)
  rintro e y5 ⟨rfl, hb⟩
  (try dsimp only)
  have Y5 := Lib.hid (below_mono Y4.out hb)
  clear hb
  (try go_wp2_with fail)
  refine hK.out _ _ (JS.out _ Y5.out) (fun hHeld2 => ?_)
  clear hK K hHeld
  have hHeld := hHeld2
  clear hHeld2
  (try simp only [Act.put, List.getElem_toArray, List.getElem_cons_zero, List.getElem_cons_succ, List.setIfInBounds_toArray, List.set_cons_zero, List.set_cons_succ])
  refine wpAnyH_ready (rs := [18]) (by kernel_rfl) (by simp) ?_
  refine AllReadyH.cons rfl (fun K hK => ?_) AllReadyH.nil
  go_simp
  (with_reducible refine (point_any 7 _).mono ?_)
  rintro e y6 ⟨rfl, hb⟩
  (try dsimp only)
  have Y6 := Lib.hid (below_mono Y5.out hb)
  clear hb
  (try go_wp2_with fail)
  refine hK.out _ _ (JS.out _ Y6.out) (fun hHeld2 => ?_)
  clear hK K hHeld
  have hHeld := hHeld2
  clear hHeld2
  (try simp only [Act.put, List.getElem_toArray, List.getElem_cons_zero, List.getElem_cons_succ, List.setIfInBounds_toArray, List.set_cons_zero, List.set_cons_succ])
  refine wpAnyH_take (i := 19) (v := .agg #[.int .i64 5, .int .i64 5, .int .i64 (-4), .int .i64 (-4), .int .i64 7, .int .i64 7]) rfl (by kernel_rfl) (by kernel_rfl) (by kernel_rfl) (fun _ _ _ h => h) (Or.inl ⟨by rfl, by intro w hSw; (try dsimp only at hSw); go_simp⟩) (by assumption) ?_
  (try simp only [Act.put, List.getElem_toArray, List.getElem_cons_zero, List.getElem_cons_succ, List.setIfInBounds_toArray, List.set_cons_zero, List.set_cons_succ])
  refine wpAnyH_take (i := 20) (v := .bool true) rfl (by kernel_rfl) (by kernel_rfl) (by kernel_rfl) (fun _ _ _ h => h) (Or.inl ⟨by rfl, by intro w hSw; (try dsimp only at hSw); go_simp⟩) (by assumption) ?_
  (try simp only [Act.put, List.getElem_toArray, List.getElem_cons_zero, List.getElem_cons_succ, List.setIfInBounds_toArray, List.set_cons_zero, List.set_cons_succ])
  refine wpAnyH_take (i := 21) (v := .bool true) rfl (by kernel_rfl) (by kernel_rfl) (by kernel_rfl) (fun _ _ _ h => h) (Or.inl ⟨by rfl, by intro w hSw; (try dsimp only at hSw); go_simp⟩) (by assumption) ?_
  (try simp only [Act.put, List.getElem_toArray, List.getElem_cons_zero, List.getElem_cons_succ, List.setIfInBounds_toArray, List.set_cons_zero, List.set_cons_succ])
  refine wpAnyH_take (i := 22) (v := .bool true) rfl (by kernel_rfl) (by kernel_rfl) (by kernel_rfl) (fun _ _ _ h => h) (Or.inl ⟨by rfl, by intro w hSw; (try dsimp only at hSw); go_simp⟩) (by assumption) ?_
  (try simp only [Act.put, List.getElem_toArray, List.getElem_cons_zero, List.getElem_cons_succ, List.setIfInBounds_toArray, List.set_cons_zero, List.set_cons_succ])
  refine wpAnyH_take (i := 23) (v := .int .i64 0) rfl (by kernel_rfl) (by kernel_rfl) (by kernel_rfl) (fun _ _ _ h => h) (Or.inl ⟨by rfl, by intro w hSw; (try dsimp only at hSw); go_simp⟩) (by assumption) ?_
  (try simp only [Act.put, List.getElem_toArray, List.getElem_cons_zero, List.getElem_cons_succ, List.setIfInBounds_toArray, List.set_cons_zero, List.set_cons_succ])
  refine wpAnyH_take (i := 24) (v := .bool true) rfl (by kernel_rfl) (by kernel_rfl) (by kernel_rfl) (fun _ _ _ h => h) (Or.inl ⟨by rfl, by intro w hSw; (try dsimp only at hSw); go_simp⟩) (by assumption) ?_
  (try simp only [Act.put, List.getElem_toArray, List.getElem_cons_zero, List.getElem_cons_succ, List.setIfInBounds_toArray, List.set_cons_zero, List.set_cons_succ])
  refine wpAnyH_take (i := 25) (v := .bool true) rfl (by kernel_rfl) (by kernel_rfl) (by kernel_rfl) (fun _ _ _ h => h) (Or.inl ⟨by rfl, by intro w hSw; (try dsimp only at hSw); go_simp⟩) (by assumption) ?_
  (try simp only [Act.put, List.getElem_toArray, List.getElem_cons_zero, List.getElem_cons_succ, List.setIfInBounds_toArray, List.set_cons_zero, List.set_cons_succ])
  refine wpAnyH_take (i := 26) (v := .bool true) rfl (by kernel_rfl) (by kernel_rfl) (by kernel_rfl) (fun _ _ _ h => h) (Or.inl ⟨by rfl, by intro w hSw; (try dsimp only at hSw); go_simp⟩) (by assumption) ?_
  (try simp only [Act.put, List.getElem_toArray, List.getElem_cons_zero, List.getElem_cons_succ, List.setIfInBounds_toArray, List.set_cons_zero, List.set_cons_succ])
  refine wpAnyH_take (i := 27) (v := .agg #[.int .i64 518400000, .int .i64 518400000, .int .i64 0, .int .i64 0, .int .i64 0, .int .i64 0]) rfl (by kernel_rfl) (by kernel_rfl) (by kernel_rfl) (fun _ _ _ h => h) (Or.inl ⟨by rfl, by intro w hSw; (try dsimp only at hSw); go_simp⟩) (by assumption) ?_
  (try simp only [Act.put, List.getElem_toArray, List.getElem_cons_zero, List.getElem_cons_succ, List.setIfInBounds_toArray, List.set_cons_zero, List.set_cons_succ])
  refine wpAnyH_ready (rs := [28]) (by kernel_rfl) (by simp) ?_
  refine AllReadyH.cons rfl (fun K hK => ?_) AllReadyH.nil
  go_simp
  (with_reducible refine (point_any 518400000 _).mono ?_)
  rintro e y7 ⟨rfl, hb⟩
  (try dsimp only)
  have Y7 := Lib.hid (below_mono Y6.out hb)
  clear hb
  (try go_wp2_with fail)
  refine hK.out _ _ (JS.out _ Y7.out) (fun hHeld2 => ?_)
  clear hK K hHeld
  have hHeld := hHeld2
  clear hHeld2
  (try simp only [Act.put, List.getElem_toArray, List.getElem_cons_zero, List.getElem_cons_succ, List.setIfInBounds_toArray, List.set_cons_zero, List.set_cons_succ])
  refine wpAnyH_ready (rs := [29]) (by kernel_rfl) (by simp) ?_
  refine AllReadyH.cons rfl (fun K hK => ?_) AllReadyH.nil
  go_simp
  (with_reducible refine (point_any 0 _).mono ?_)
  rintro e y8 ⟨rfl, hb⟩
  (try dsimp only)
  have Y8 := Lib.hid (below_mono Y7.out hb)
  clear hb
  (try go_wp2_with fail)
  refine hK.out _ _ (JS.out _ Y8.out) (fun hHeld2 => ?_)
  clear hK K hHeld
  have hHeld := hHeld2
  clear hHeld2
  (try simp only [Act.put, List.getElem_toArray, List.getElem_cons_zero, List.getElem_cons_succ, List.setIfInBounds_toArray, List.set_cons_zero, List.set_cons_succ])
  refine wpAnyH_ready (rs := [30]) (by kernel_rfl) (by simp) ?_
  refine AllReadyH.cons rfl (fun K hK => ?_) AllReadyH.nil
  go_simp
  (with_reducible refine (point_any 0 _).mono ?_)
  rintro e y9 ⟨rfl, hb⟩
  (try dsimp only)
  have Y9 := Lib.hid (below_mono Y8.out hb)
  clear hb
  (try go_wp2_with fail)
  refine hK.out _ _ (JS.out _ Y9.out) (fun hHeld2 => ?_)
  clear hK K hHeld
  have hHeld := hHeld2
  clear hHeld2
  (try simp only [Act.put, List.getElem_toArray, List.getElem_cons_zero, List.getElem_cons_succ, List.setIfInBounds_toArray, List.set_cons_zero, List.set_cons_succ])
  refine wpAnyH_take (i := 31) (v := .agg #[.int .i64 518400000, .int .i64 518400000, .int .i64 0, .int .i64 0, .int .i64 0, .int .i64 0]) rfl (by kernel_rfl) (by kernel_rfl) (by kernel_rfl) (fun _ _ _ h => h) (Or.inl ⟨by rfl, by intro w hSw; (try dsimp only at hSw); go_simp⟩) (by assumption) ?_
  (try simp only [Act.put, List.getElem_toArray, List.getElem_cons_zero, List.getElem_cons_succ, List.setIfInBounds_toArray, List.set_cons_zero, List.set_cons_succ])
  refine wpAnyH_take (i := 32) (v := .bool true) rfl (by kernel_rfl) (by kernel_rfl) (by kernel_rfl) (fun _ _ _ h => h) (Or.inl ⟨by rfl, by intro w hSw; (try dsimp only at hSw); go_simp⟩) (by assumption) ?_
  (try simp only [Act.put, List.getElem_toArray, List.getElem_cons_zero, List.getElem_cons_succ, List.setIfInBounds_toArray, List.set_cons_zero, List.set_cons_succ])
  refine wpAnyH_take (i := 33) (v := .bool true) rfl (by kernel_rfl) (by kernel_rfl) (by kernel_rfl) (fun _ _ _ h => h) (Or.inl ⟨by rfl, by intro w hSw; (try dsimp only at hSw); go_simp⟩) (by assumption) ?_
  (try simp only [Act.put, List.getElem_toArray, List.getElem_cons_zero, List.getElem_cons_succ, List.setIfInBounds_toArray, List.set_cons_zero, List.set_cons_succ])
  refine wpAnyH_ready (rs := [34]) (by kernel_rfl) (by simp) ?_
  refine AllReadyH.cons rfl (fun K hK => ?_) AllReadyH.nil
  go_simp
  refine hK.out _ _ (JS.out _ Y9.out) (fun hHeld2 => ?_)
  clear hK K hHeld
  have hHeld := hHeld2
  clear hHeld2
  (try simp only [Act.put, List.getElem_toArray, List.getElem_cons_zero, List.getElem_cons_succ, List.setIfInBounds_toArray, List.set_cons_zero, List.set_cons_succ])
  refine wpAnyH_done (by kernel_rfl) ?_ _
  go_wp2
  go_ret
  exact ⟨rfl, below_mono B3.out Y9.out⟩

/-- An interval is one. -/
def OkI (lo hi : Int) : Prop := lo ≤ hi ∧ -2305843009213693952 ≤ lo ∧ hi ≤ 2305843009213693952

structure OkV (v : V6) : Prop where
  a : OkI v.l0 v.h0
  b : OkI v.l1 v.h1
  c : OkI v.l2 v.h2

theorem unS_okI (v : Rat) : OkI (unS v).1 (unS v).2.1 := by
  unfold OkI unS
  split
  · exact ⟨by decide, by decide, by decide⟩
  · have := (fl_le_ceil v).1
    exact ⟨by dsimp only; omega, by dsimp only; omega, by dsimp only; omega⟩

theorem plV_okV (s : SG) (t : Int) : OkV (plV s t) := ⟨unS_okI _, unS_okI _, unS_okI _⟩

set_option maxRecDepth 100000 in
set_option maxHeartbeats 8000000 in
theorem r3check_ok (lo hi : Int) (h : OkI lo hi) (w : World) : Calls Try.prog 18 #[.agg #[.int .i64 lo, .int .i64 hi]] w fun e w' => e = .returned (.int .i64 0) ∧ Below w.heap.size w w' := by
  obtain ⟨h1, h2, h3⟩ := h
  have t1 : decide (hi < lo) = false := decide_eq_false (by omega)
  have t2 : decide (lo < -2305843009213693952) = false := decide_eq_false (by omega)
  have t3 : decide (2305843009213693952 < hi) = false := decide_eq_false (by omega)
  clear h1 h2 h3
  go_enter Try.func18, Try.ntmps18
  go_wp2
  go_ret
  exact ⟨rfl, blw1 _ _⟩

set_option maxRecDepth 100000 in
set_option maxHeartbeats 8000000 in
theorem r17check_ok (v : V6) (h : OkV v) (w : World) : Calls Try.prog 9 #[.agg #[.int .i64 v.l0, .int .i64 v.h0, .int .i64 v.l1, .int .i64 v.h1, .int .i64 v.l2, .int .i64 v.h2]] w fun e w' => e = .returned (.int .i64 0) ∧ Below w.heap.size w w' := by
  have CK : Hid (∀ V k, k < 3 → ∃ lo hi, #[Value.int .i64 v.l0, Value.int .i64 v.h0, Value.int .i64 v.l1, Value.int .i64 v.h1, Value.int .i64 v.l2, Value.int .i64 v.h2][k * 2]? = some (.int .i64 lo) ∧ #[Value.int .i64 v.l0, Value.int .i64 v.h0, Value.int .i64 v.l1, Value.int .i64 v.h1, Value.int .i64 v.l2, Value.int .i64 v.h2][k * 2 + 1]? = some (.int .i64 hi) ∧ Calls Try.prog 18 #[.agg #[.int .i64 lo, .int .i64 hi]] V fun e w' => e = .returned (.int .i64 0) ∧ Below V.heap.size V w') := fun V k hk => by
    have hk' : k = 0 ∨ k = 1 ∨ k = 2 := by omega
    rcases hk' with rfl | rfl | rfl
    · exact ⟨_, _, rfl, rfl, r3check_ok _ _ h.a V⟩
    · exact ⟨_, _, rfl, rfl, r3check_ok _ _ h.b V⟩
    · exact ⟨_, _, rfl, rfl, r3check_ok _ _ h.c V⟩
  clear h
  go_enter Try.func9, Try.ntmps9
  go_wp2_with fail
  generalize hw0 : w.alloc (.cells #[.int .i64 v.l0, .int .i64 v.h0, .int .i64 v.l1, .int .i64 v.h1, .int .i64 v.l2, .int .i64 v.h2] 38) = w0 at *
  have KV : Hid (BlkV w0 w.heap.size 38 #[.int .i64 v.l0, .int .i64 v.h0, .int .i64 v.l1, .int .i64 v.h1, .int .i64 v.l2, .int .i64 v.h2]) := by rw [← hw0]; exact BlkV.fresh rfl _ _
  have HB : Hid (Below w.heap.size w w0) := by rw [← hw0]; exact blw1 _ _
  clear hw0
  go_loopw [3] (fun s3 wr => ∃ k : Nat, k ≤ 3 ∧ s3 = .int .i64 k ∧ Below w0.heap.size w0 wr) (fun v _ => 3 - (intOf v).toNat)
  case atStart => exact ⟨0, by omega, rfl, Below.refl _ _⟩
  case round =>
    obtain ⟨k, hk, rfl, hbr⟩ := hrel
    have K2 := Lib.hid (KV.out.keep hbr)
    have lk := K2.out.lt
    by_cases hk3 : k < 3
    · have tk : decide ((k : Int) < 3) = true := decide_eq_true (by omega)
      obtain ⟨lo, hi, e0, e1, hc⟩ := CK.out wr k hk3
      have x0 := K2.out.at_ (k * 2) e0
      have x1 := K2.out.at_ (k * 2 + 1) e1
      have HC := Lib.hid hc
      clear e0 e1 hc
      go_wp2_with fail
      refine HC.out.mono ?_
      rintro e w2 ⟨rfl, hb⟩
      have HB2 := Lib.hid (below_mono hbr hb)
      clear hb
      go_wp2
      go_roundw
      case rel => exact ⟨k + 1, by omega, by go_num, HB2.out⟩
      case measure => simp [intOf]; omega
    · have tk : decide ((k : Int) < 3) = false := decide_eq_false (by omega)
      have HF := Lib.hid (below_mono HB.out hbr)
      go_wp2
      go_ret
      exact ⟨rfl, HF.out⟩

end Go.Proofs.Ytghallnooijfhaa

namespace Go.Proofs.Ytghallnooijfhaa
open Go.RowKit Go.Shelf
attribute [local go_sem ↓] Go.wp_at_zero Go.wp_at_succ
attribute [local go_sem] Oper.semAt_some
theorem ovE_bad {bs : List BG} {i f t : Int} (h : hasE bs i ≠ 0) : ovE bs i f t = (zV6, hasE bs i) := by
  unfold ovE
  by_cases hc : chkE bs = 0
  · by_cases hi : 0 ≤ i ∧ i < bs.length
    · exact absurd (hasE_in hc hi) h
    · rw [if_pos hc, getB_none hi, hasE_out hc hi]
  · rw [if_neg hc, hasE_bad hc]

theorem ovE_good {bs : List BG} {i f t : Int} (h : hasE bs i = 0) : ovE bs i f t = if t < f then (zV6, 2) else if outT (getV bs i).ss f t then (zV6, 16) else ovR (getV bs i).ss f t := by
  obtain ⟨hc, hi⟩ := hasE_zero h
  unfold ovE
  rw [if_pos hc, getB_some hi, getV_ok h hi]

/-- What is gathered of some segments. -/
def ovP (f t : Int) : Option V6 → List SG → Option V6
  | o, [] => o
  | o, s :: r => ovP f t (some (mgO o (ovS s f t))) r

theorem ovP_snoc (f t : Int) (s : SG) : ∀ (o : Option V6) (pre : List SG), ovP f t o (pre ++ [s]) = some (mgO (ovP f t o pre) (ovS s f t))
  | _, [] => rfl
  | _, _ :: r => ovP_snoc f t s _ r

theorem ovF_filter (f t : Int) : ∀ (o : Option V6) (ss : List SG), ovF f t o ss = ovP f t o (ss.filter (inR f t))
  | _, [] => rfl
  | o, s :: r => by
    unfold ovF
    have e : ovIn s f t = inR f t s := rfl
    rw [e]
    cases h : inR f t s with
    | true => rw [if_pos rfl, List.filter_cons_of_pos h, ovF_filter f t]; rfl
    | false => rw [if_neg (by simp), List.filter_cons_of_neg (by rw [h]; simp), ovF_filter f t]

def ovV (f t : Int) (pre : List SG) : V6 := (ovP f t none pre).getD zV6

theorem ovV_next (f t : Int) (pre : List SG) (s : SG) : ovV f t (pre ++ [s]) = if 0 < pre.length then mgV (ovS s f t) (ovV f t pre) else ovS s f t := by
  unfold ovV
  rw [ovP_snoc]
  cases pre with
  | nil => rfl
  | cons x r =>
    rw [if_pos (by simp)]
    have : ∃ u, ovP f t none (x :: r) = some u := by
      have : ∀ (o : V6) (l : List SG), ∃ u, ovP f t (some o) l = some u := fun o l => by
        induction l generalizing o with
        | nil => exact ⟨o, rfl⟩
        | cons y l ih => exact ih _
      exact this _ r
    obtain ⟨u, hu⟩ := this
    rw [hu]
    rfl

theorem ovR_eq (ss : List SG) (f t : Int) : ovR ss f t = if chkV (ovV f t (ss.filter (inR f t))) then (ovV f t (ss.filter (inR f t)), 0) else (zV6, 16) := by
  unfold ovR ovV
  rw [ovF_filter]

theorem outT_out {ss : List SG} {f t : Int} (h0 : 0 < ss.length) : outT ss f t = (decide (f < (ss[0]'h0).F) || decide ((ss[ss.length - 1]'(by omega)).T < t)) := by
  unfold outT
  rw [List.head?_eq_getElem?, List.getElem?_eq_getElem h0, List.getLast?_eq_getElem?, List.getElem?_eq_getElem (by omega)]
  rfl

theorem blk_own {B g : Nat} {W W' : World} {row : Option Nat} {ty : TypeId} {xs : Array Value} (h : BlkV W g ty xs) (hlt : g < B) (hg : W.grownBy W' row) (hr : ∀ r, row = some r → B ≤ r ∧ ∃ o : Obj, W.heap[r]? = some o ∧ o.isCells = false) : BlkV W' g ty xs :=
  (hg.block g h.lt (fun e => by have := (hr g e.symm).1; omega)).trans h

/-- What the iterator's rounds keep. -/
structure KpO (b0 B go gn : Nat) (X Y : World) : Prop where
  kp : KpB B go gn X Y
  hb : Below b0 X Y

theorem KpO.refl (b0 B go gn : Nat) (X : World) : KpO b0 B go gn X X := ⟨KpB.refl _ _ _ _, Below.refl _ _⟩

theorem KpO.trans {b0 B go gn : Nat} {X Y Z : World} (h : KpO b0 B go gn X Y) (k : KpO b0 B go gn Y Z) : KpO b0 B go gn X Z := ⟨h.kp.trans k.kp, h.hb.trans k.hb⟩

theorem KpO.of {b0 B go gn : Nat} {X Y : World} (h : Below X.heap.size X Y) (h1 : B ≤ X.heap.size) (h0 : b0 ≤ B) : KpO b0 B go gn X Y := ⟨KpB.of (h.mono h1), h.mono (by omega)⟩

theorem KpO.putObj {b0 B go gn : Nat} (W : World) (l : Nat) (o o' : Obj) (hl : B ≤ l) (h0 : b0 ≤ B) (h : W.heap[l]? = some o) : KpO b0 B go gn W (W.putObj l o') :=
  ⟨KpB.putObj W l o' hl, (Below.refl b0 W).grown (grownBy_putObj' W l o') (by have := (Array.getElem?_eq_some_iff.1 h).1; omega) (fun k e => by cases e; omega)⟩

theorem KpO.grown {b0 B go gn : Nat} {X Y Z : World} {row : Option Nat} (h : KpO b0 B go gn X Y) (hX : B ≤ X.heap.size) (h0 : b0 ≤ B) (hg : Y.grownBy Z row) (hr : ∀ r, row = some r → B ≤ r ∧ ∃ o : Obj, Y.heap[r]? = some o ∧ o.isCells = false) : KpO b0 B go gn X Z :=
  ⟨⟨Nat.le_trans h.kp.size hg.size, fun k hk h1 h2 => (hg.block k (by have := h.kp.size; omega) (fun e => by have := (hr k e.symm).1; omega)).trans (h.kp.block k hk h1 h2)⟩, h.hb.grown hg (by have := h.kp.size; omega) (fun k e => by have := (hr k e).1; omega)⟩

/-- What holds between the rounds: W0 was the world at the loop, go and gn are the boxes of what is gathered and of how many. -/
structure OvI (b0 go gn : Nat) (W0 : World) (f t : Int) (pre : List SG) (W : World) : Prop where
  kp : KpO b0 W0.heap.size go gn W0 W
  ko : BlkV W go 38 #[.int .i64 (ovV f t pre).l0, .int .i64 (ovV f t pre).h0, .int .i64 (ovV f t pre).l1, .int .i64 (ovV f t pre).h1, .int .i64 (ovV f t pre).l2, .int .i64 (ovV f t pre).h2]
  kn : BlkV W gn 3 #[.int .i64 pre.length]

section
variable {b0 go gn : Nat} {W0 W W' : World} {f t : Int} {pre : List SG}
theorem OvI.keep (h : OvI b0 go gn W0 f t pre W) (h0 : b0 ≤ W0.heap.size) (hb : Below W.heap.size W W') : OvI b0 go gn W0 f t pre W' :=
  ⟨h.kp.trans (KpO.of hb h.kp.kp.size h0), h.ko.keep hb, h.kn.keep hb⟩

theorem OvI.own {row : Option Nat} (h0 : b0 ≤ W0.heap.size) (l1 : go < W0.heap.size) (l2 : gn < W0.heap.size) (h : OvI b0 go gn W0 f t pre W) (hg : W.grownBy W' row) (hr : ∀ r, row = some r → W0.heap.size ≤ r ∧ ∃ o : Obj, W.heap[r]? = some o ∧ o.isCells = false) : OvI b0 go gn W0 f t pre W' :=
  ⟨h.kp.grown (Nat.le_refl _) h0 hg hr, blk_own h.ko l1 hg hr, blk_own h.kn l2 hg hr⟩

end
/-- What holds in a round: Wb was its world at first; gs and gl are the boxes of the segment and of the times. -/
structure OvX (b0 B go gn gs gl : Nat) (Wb X : World) (u : V6) (n : Nat) (s : SG) (a b : Int) : Prop where
  kf : KeepsFrom B Wb X
  kp : KpO b0 B go gn Wb X
  ko : BlkV X go 38 #[.int .i64 u.l0, .int .i64 u.h0, .int .i64 u.l1, .int .i64 u.h1, .int .i64 u.l2, .int .i64 u.h2]
  kn : BlkV X gn 3 #[.int .i64 n]
  ks : BlkV X gs 31 #[.int .i64 s.F, .int .i64 s.T, .slice s.A0 s.l0.length s.c0, .slice s.A1 s.l1.length s.c1, .slice s.A2 s.l2.length s.c2]
  kl : BlkV X gl 72 #[.int .i64 a, .int .i64 b]
  sB : B ≤ X.heap.size

theorem keeps_below {W W' : World} (h : Below W.heap.size W W') : KeepsOthers W W' := ⟨h.size, fun k _ hk _ => (h.block k (Array.getElem?_eq_some_iff.1 hk).1).trans hk⟩

section
variable {b0 B go gn gs gl : Nat} {Wb X Y : World} {u : V6} {n : Nat} {s : SG} {a b : Int}
theorem OvX.call (h : OvX b0 B go gn gs gl Wb X u n s a b) (h0 : b0 ≤ B) (hb : Below X.heap.size X Y) : OvX b0 B go gn gs gl Wb Y u n s a b :=
  ⟨h.kf.trans ((keeps_below hb).from _), h.kp.trans (KpO.of hb h.sB h0), h.ko.keep hb, h.kn.keep hb, h.ks.keep hb, h.kl.keep hb, Nat.le_trans h.sB hb.size⟩

theorem OvX.far (h : OvX b0 B go gn gs gl Wb X u n s a b) (h0 : b0 ≤ B) {g : Nat} (hg : B ≤ g) (hne : go ≠ g ∧ gn ≠ g ∧ gs ≠ g ∧ gl ≠ g) (i : Nat) (v : Value) : OvX b0 B go gn gs gl Wb (X.setCell ⟨g, i, none⟩ v) u n s a b :=
  ⟨h.kf.trans ((KeepsOthers.setCell _ _ _).from _), ⟨⟨by rw [World.size_setCell]; exact h.kp.kp.size, fun k hk h1 h2 => (Below.heap_setCell X ⟨g, i, none⟩ v k (by show k ≠ g; omega)).trans (h.kp.kp.block k hk h1 h2)⟩, h.kp.hb.setCell (p := ⟨g, i, none⟩) (by show b0 ≤ g; omega) _⟩,
    h.ko.far (p := ⟨g, i, none⟩) hne.1 _, h.kn.far (p := ⟨g, i, none⟩) hne.2.1 _, h.ks.far (p := ⟨g, i, none⟩) hne.2.2.1 _, h.kl.far (p := ⟨g, i, none⟩) hne.2.2.2 _, by rw [World.size_setCell]; exact h.sB⟩

end
section
variable {b0 B go gn gs gl : Nat} {Wb X : World} {u : V6} {n : Nat} {s : SG} {a b : Int}
theorem keeps6 (w : World) (g : Nat) (x y z p q r : Value) : KeepsOthers w ((((((w.setCell ⟨g, 0, none⟩ x).setCell ⟨g, 1, none⟩ y).setCell ⟨g, 2, none⟩ z).setCell ⟨g, 3, none⟩ p).setCell ⟨g, 4, none⟩ q).setCell ⟨g, 5, none⟩ r) :=
  (((((KeepsOthers.setCell _ _ _).trans (KeepsOthers.setCell _ _ _)).trans (KeepsOthers.setCell _ _ _)).trans (KeepsOthers.setCell _ _ _)).trans (KeepsOthers.setCell _ _ _)).trans (KeepsOthers.setCell _ _ _)

theorem OvX.fin (h : OvX b0 B go gn gs gl Wb X u n s a b) (l1 : b0 ≤ go) (l2 : b0 ≤ gn) (hne : go ≠ gn) (d : V6) (m : Int) :
    BlkV ((((((X.setCell ⟨go, 0, none⟩ (.int .i64 d.l0)).setCell ⟨go, 1, none⟩ (.int .i64 d.h0)).setCell ⟨go, 2, none⟩ (.int .i64 d.l1)).setCell ⟨go, 3, none⟩ (.int .i64 d.h1)).setCell ⟨go, 4, none⟩ (.int .i64 d.l2)).setCell ⟨go, 5, none⟩ (.int .i64 d.h2)) gn 3 #[.int .i64 n] ∧
    KeepsFrom B Wb (((((((X.setCell ⟨go, 0, none⟩ (.int .i64 d.l0)).setCell ⟨go, 1, none⟩ (.int .i64 d.h0)).setCell ⟨go, 2, none⟩ (.int .i64 d.l1)).setCell ⟨go, 3, none⟩ (.int .i64 d.h1)).setCell ⟨go, 4, none⟩ (.int .i64 d.l2)).setCell ⟨go, 5, none⟩ (.int .i64 d.h2)).setCell ⟨gn, 0, none⟩ (.int .i64 m)) ∧
    KpO b0 B go gn Wb (((((((X.setCell ⟨go, 0, none⟩ (.int .i64 d.l0)).setCell ⟨go, 1, none⟩ (.int .i64 d.h0)).setCell ⟨go, 2, none⟩ (.int .i64 d.l1)).setCell ⟨go, 3, none⟩ (.int .i64 d.h1)).setCell ⟨go, 4, none⟩ (.int .i64 d.l2)).setCell ⟨go, 5, none⟩ (.int .i64 d.h2)).setCell ⟨gn, 0, none⟩ (.int .i64 m)) ∧
    BlkV (((((((X.setCell ⟨go, 0, none⟩ (.int .i64 d.l0)).setCell ⟨go, 1, none⟩ (.int .i64 d.h0)).setCell ⟨go, 2, none⟩ (.int .i64 d.l1)).setCell ⟨go, 3, none⟩ (.int .i64 d.h1)).setCell ⟨go, 4, none⟩ (.int .i64 d.l2)).setCell ⟨go, 5, none⟩ (.int .i64 d.h2)).setCell ⟨gn, 0, none⟩ (.int .i64 m)) go 38 #[.int .i64 d.l0, .int .i64 d.h0, .int .i64 d.l1, .int .i64 d.h1, .int .i64 d.l2, .int .i64 d.h2] ∧
    BlkV (((((((X.setCell ⟨go, 0, none⟩ (.int .i64 d.l0)).setCell ⟨go, 1, none⟩ (.int .i64 d.h0)).setCell ⟨go, 2, none⟩ (.int .i64 d.l1)).setCell ⟨go, 3, none⟩ (.int .i64 d.h1)).setCell ⟨go, 4, none⟩ (.int .i64 d.l2)).setCell ⟨go, 5, none⟩ (.int .i64 d.h2)).setCell ⟨gn, 0, none⟩ (.int .i64 m)) gn 3 #[.int .i64 m] := by
  have kn6 := (((((h.kn.far (p := ⟨go, 0, none⟩) (Ne.symm hne) (.int .i64 d.l0)).far (p := ⟨go, 1, none⟩) (Ne.symm hne) (.int .i64 d.h0)).far (p := ⟨go, 2, none⟩) (Ne.symm hne) (.int .i64 d.l1)).far (p := ⟨go, 3, none⟩) (Ne.symm hne) (.int .i64 d.h1)).far (p := ⟨go, 4, none⟩) (Ne.symm hne) (.int .i64 d.l2)).far (p := ⟨go, 5, none⟩) (Ne.symm hne) (.int .i64 d.h2)
  exact ⟨kn6, h.kf.trans (((keeps6 _ _ _ _ _ _ _ _).trans (KeepsOthers.setCell _ _ _)).from _), ⟨((((((h.kp.kp.set1 _ _).set1 _ _).set1 _ _).set1 _ _).set1 _ _).set1 _ _).set2 _ _, (below_set6 h.kp.hb l1 _ _ _ _ _ _).setCell (p := ⟨gn, 0, none⟩) l2 _⟩,
    (h.ko.put6 _ _ _ _ _ _).far (p := ⟨gn, 0, none⟩) hne _, kn6.put 0 _ rfl⟩

end
/-- The numbers of a vector by functions. -/
def VH (lo hi : Nat → Int) : Array Value := #[.int .i64 (lo 0), .int .i64 (hi 0), .int .i64 (lo 1), .int .i64 (hi 1), .int .i64 (lo 2), .int .i64 (hi 2)]

def upI (f : Nat → Int) (k : Nat) (x : Int) : Nat → Int := fun j => if j = k then x else f j

theorem VH_of (v : V6) : (#[.int .i64 v.l0, .int .i64 v.h0, .int .i64 v.l1, .int .i64 v.h1, .int .i64 v.l2, .int .i64 v.h2] : Array Value) = VH (lo6 v) (hi6 v) := rfl

theorem VH_cong {lo hi : Nat → Int} {v : V6} (h : ∀ j, j < 3 → lo j = lo6 v j ∧ hi j = hi6 v j) : VH lo hi = #[.int .i64 v.l0, .int .i64 v.h0, .int .i64 v.l1, .int .i64 v.h1, .int .i64 v.l2, .int .i64 v.h2] := by
  rw [VH_of]
  unfold VH
  rw [(h 0 (by omega)).1, (h 0 (by omega)).2, (h 1 (by omega)).1, (h 1 (by omega)).2, (h 2 (by omega)).1, (h 2 (by omega)).2]

theorem VH_at (lo hi : Nat → Int) {k : Nat} (hk : k < 3) : (VH lo hi)[k * 2]? = some (.int .i64 (lo k)) ∧ (VH lo hi)[k * 2 + 1]? = some (.int .i64 (hi k)) := by
  obtain rfl | rfl | rfl : k = 0 ∨ k = 1 ∨ k = 2 := by omega
  all_goals exact ⟨rfl, rfl⟩

theorem VH_lo (lo hi : Nat → Int) {k : Nat} (hk : k < 3) (x : Int) : (VH lo hi).setIfInBounds (k * 2) (.int .i64 x) = VH (upI lo k x) hi := by
  obtain rfl | rfl | rfl : k = 0 ∨ k = 1 ∨ k = 2 := by omega
  all_goals rfl

theorem VH_hi (lo hi : Nat → Int) {k : Nat} (hk : k < 3) (x : Int) : (VH lo hi).setIfInBounds (k * 2 + 1) (.int .i64 x) = VH lo (upI hi k x) := by
  obtain rfl | rfl | rfl : k = 0 ∨ k = 1 ∨ k = 2 := by omega
  all_goals rfl

theorem upI_at (f : Nat → Int) (k : Nat) (x : Int) : upI f k x k = x := if_pos rfl

theorem upI_ne (f : Nat → Int) {k j : Nat} (x : Int) (h : j ≠ k) : upI f k x j = f j := if_neg h

/-- What a vector becomes, number by number. -/
theorem mg_at (s : SG) (f t : Int) (u : V6) (n : Nat) {k : Nat} (hk : k < 3) :
    lo6 (if 0 < n then mgV (ovS s f t) u else ovS s f t) k = (if 0 < n then min (lo6 (plV s (ovM s f t)) k - ovW s (s.l k) f t) (lo6 u k) else lo6 (plV s (ovM s f t)) k - ovW s (s.l k) f t) ∧
    hi6 (if 0 < n then mgV (ovS s f t) u else ovS s f t) k = (if 0 < n then max (hi6 (plV s (ovM s f t)) k + ovW s (s.l k) f t) (hi6 u k) else hi6 (plV s (ovM s f t)) k + ovW s (s.l k) f t) := by
  obtain rfl | rfl | rfl : k = 0 ∨ k = 1 ∨ k = 2 := by omega
  all_goals (split <;> exact ⟨rfl, rfl⟩)

theorem okI6 {v : V6} (h : OkI v.l0 v.h0 ∧ OkI v.l1 v.h1 ∧ OkI v.l2 v.h2) {k : Nat} (hk : k < 3) : OkI (lo6 v k) (hi6 v k) := by
  obtain rfl | rfl | rfl : k = 0 ∨ k = 1 ∨ k = 2 := by omega
  · exact h.1
  · exact h.2.1
  · exact h.2.2

set_option maxRecDepth 100000 in
set_option maxHeartbeats 8000000 in
theorem eover_any (bs : List BG) (A : Option Addr) (c B : Nat) (i f t : Int) (w : World) (hs : SlB w B A bs c) (hg : grE bs = false) :
    Calls Try.prog 12 #[.agg #[.slice A bs.length c], .int .i64 i, .int .i64 f, .int .i64 t] w fun e w' => e = .returned (.tuple #[.agg #[.int .i64 (ovE bs i f t).1.l0, .int .i64 (ovE bs i f t).1.h0, .int .i64 (ovE bs i f t).1.l1, .int .i64 (ovE bs i f t).1.h1, .int .i64 (ovE bs i f t).1.l2, .int .i64 (ovE bs i f t).1.h2], .int .i64 (ovE bs i f t).2]) ∧ Below w.heap.size w w' := by
  have S := Lib.hid hs
  clear hs
  by_cases h0 : hasE bs i = 0
  · have OB := Lib.hid (OkB.get S.out i)
    obtain ⟨hc0, hi0⟩ := hasE_zero h0
    have hgv := getV_ok h0 hi0
    have hmem : getV bs i ∈ bs := by rw [hgv]; exact List.getElem_mem _
    have OS := Lib.hid (fun s (h : s ∈ (getV bs i).ss) => ok_seg hg hc0 hmem h)
    have hne : 0 < (getV bs i).ss.length := by
      obtain ⟨-, -, h3⟩ := chkE_ok hc0
      rw [hgv]
      exact (h3.b _ (by omega)).ne
    clear hgv hmem hc0 hi0
    have E0 := Lib.hid (ovE_good (f := f) (t := t) h0)
    obtain ⟨R, hR⟩ : ∃ R, R = ovE bs i f t := ⟨_, rfl⟩
    rw [← hR] at E0 ⊢
    clear hR
    by_cases hft : t < f
    · have tf : decide (t < f) = true := decide_eq_true hft
      have E := Lib.hid (E0.out.trans (if_pos hft))
      clear E0 OS
      go_enter Try.func12, Try.ntmps12
      go_wp2_with (fail)
      generalize hwz : (w.alloc (.cells #[.slice A bs.length c] 24)).alloc (.cells #[.int .i64 0, .int .i64 0, .int .i64 0, .int .i64 0, .int .i64 0, .int .i64 0] 38) = wz at *
      have KE : Hid (BlkV wz w.heap.size 24 #[.slice A bs.length c]) := by rw [← hwz]; exact (BlkV.fresh rfl _ _).alloc _
      have KR : Hid (BlkV wz (w.heap.size + 1) 38 #[.int .i64 0, .int .i64 0, .int .i64 0, .int .i64 0, .int .i64 0, .int .i64 0]) := by rw [← hwz]; exact BlkV.fresh (by simp) _ _
      have HB : Hid (Below w.heap.size w wz) := by rw [← hwz]; exact below_mono (blw1 _ _) (blw1 _ _)
      clear hwz
      refine (eget_any bs A c B i wz (S.out.below HB.out)).mono ?_
      rintro e w1 ⟨rfl, hb⟩
      replace KE := Lib.hid (KE.out.keep hb)
      replace KR := Lib.hid (KR.out.keep hb)
      replace HB := Lib.hid (below_mono HB.out hb)
      clear hb
      rw [h0]
      generalize getV bs i = y at *
      clear h0
      go_upto_region 2 with fail
      generalize hwx : w1.alloc (.cells #[.string ⟨y.nm.toArray⟩, .int .i64 y.gm, .int .i64 y.rd, .slice y.A y.ss.length y.c] 34) = wx at *
      have KY : Hid (BlkV wx w1.heap.size 34 #[.string ⟨y.nm.toArray⟩, .int .i64 y.gm, .int .i64 y.rd, .slice y.A y.ss.length y.c]) := by rw [← hwx]; exact BlkV.fresh rfl _ _
      replace KR : Hid (BlkV wx (w.heap.size + 1) 38 #[.int .i64 0, .int .i64 0, .int .i64 0, .int .i64 0, .int .i64 0, .int .i64 0]) := by rw [← hwx]; exact KR.out.alloc _
      replace HB : Hid (Below w.heap.size w wx) := by rw [← hwx]; exact below_mono HB.out (blw1 _ _)
      have hgy := HB.out.size
      skip
      clear hwx
      have r0 := KR.out.at_ 0 rfl
      have r1 := KR.out.at_ 1 rfl
      have r2 := KR.out.at_ 2 rfl
      have r3 := KR.out.at_ 3 rfl
      have r4 := KR.out.at_ 4 rfl
      have r5 := KR.out.at_ 5 rfl
      have fr0 := KR.out.frozen 0
      have fr1 := KR.out.frozen 1
      have fr2 := KR.out.frozen 2
      have fr3 := KR.out.frozen 3
      have fr4 := KR.out.frozen 4
      have fr5 := KR.out.frozen 5
      go_wp2
      exact bodyPost_ret (v := .tuple #[.agg #[.int .i64 0, .int .i64 0, .int .i64 0, .int .i64 0, .int .i64 0, .int .i64 0], .int .i64 2]) (by simp [results, Try.results12, go_sem, r0, r1, r2, r3, r4, r5]) rfl ⟨by rw [E.out] <;> rfl, below_set6 HB.out (Nat.le_succ _) _ _ _ _ _ _⟩
    · have tf : decide (t < f) = false := decide_eq_false hft
      replace E0 := Lib.hid (E0.out.trans (if_neg hft))
      obtain ⟨y, hy⟩ : ∃ y, y = getV bs i := ⟨_, rfl⟩
      rw [← hy] at E0 OB OS
      have hne' : 0 < y.ss.length := by rw [hy]; exact hne
      have EO : outT y.ss f t = (decide (f < (y.ss[0]'hne').F) || decide ((y.ss[y.ss.length - 1]'(by omega)).T < t)) := outT_out hne'
      have hlen : y.ss.length ≤ 4398046511104 := OB.out.sl.len
      obtain ⟨b0, o0, eA, -, pF, -, -, -, -, -⟩ := OB.out.sl.at_ hne'
      obtain ⟨b0', o0', eA', -, -, pT, -, -, -, -⟩ := OB.out.sl.at_ (k := y.ss.length - 1) (by omega)
      rw [eA] at eA'
      cases eA'
      simp only [Nat.zero_mul, Nat.add_zero] at pF
      generalize (y.ss[0]'hne').F = F0 at *
      generalize (y.ss[y.ss.length - 1]'_).T = T0 at *
      by_cases ho : outT y.ss f t = true
      · have E := Lib.hid (E0.out.trans (if_pos ho))
        rw [ho] at EO
        replace EO := Lib.hid EO.symm
        clear E0 OS ho
        go_enter Try.func12, Try.ntmps12
        go_wp2_with (fail)
        generalize hwz : (w.alloc (.cells #[.slice A bs.length c] 24)).alloc (.cells #[.int .i64 0, .int .i64 0, .int .i64 0, .int .i64 0, .int .i64 0, .int .i64 0] 38) = wz at *
        have KE : Hid (BlkV wz w.heap.size 24 #[.slice A bs.length c]) := by rw [← hwz]; exact (BlkV.fresh rfl _ _).alloc _
        have KR : Hid (BlkV wz (w.heap.size + 1) 38 #[.int .i64 0, .int .i64 0, .int .i64 0, .int .i64 0, .int .i64 0, .int .i64 0]) := by rw [← hwz]; exact BlkV.fresh (by simp) _ _
        have HB : Hid (Below w.heap.size w wz) := by rw [← hwz]; exact below_mono (blw1 _ _) (blw1 _ _)
        clear hwz
        refine (eget_any bs A c B i wz (S.out.below HB.out)).mono ?_
        rintro e w1 ⟨rfl, hb⟩
        replace KE := Lib.hid (KE.out.keep hb)
        replace KR := Lib.hid (KR.out.keep hb)
        replace HB := Lib.hid (below_mono HB.out hb)
        clear hb
        rw [h0, ← hy]
        clear h0 hne hy
        dsimp only
        rw [eA]
        go_upto_region 2 with fail
        generalize hwx : w1.alloc (.cells #[.string ⟨y.nm.toArray⟩, .int .i64 y.gm, .int .i64 y.rd, .slice (some ⟨b0, o0, none⟩) y.ss.length y.c] 34) = wx at *
        have KY : Hid (BlkV wx w1.heap.size 34 #[.string ⟨y.nm.toArray⟩, .int .i64 y.gm, .int .i64 y.rd, .slice (some ⟨b0, o0, none⟩) y.ss.length y.c]) := by rw [← hwx]; exact BlkV.fresh rfl _ _
        replace KR : Hid (BlkV wx (w.heap.size + 1) 38 #[.int .i64 0, .int .i64 0, .int .i64 0, .int .i64 0, .int .i64 0, .int .i64 0]) := by rw [← hwx]; exact KR.out.alloc _
        replace HB : Hid (Below w.heap.size w wx) := by rw [← hwx]; exact below_mono HB.out (blw1 _ _)
        have hgy := HB.out.size
        skip
        clear hwx
        have y0 := KY.out.at_ 0 rfl
        have y1 := KY.out.at_ 1 rfl
        have y2 := KY.out.at_ 2 rfl
        have y3 := KY.out.at_ 3 rfl
        have hln : IntKind.i64.wrap ((y.ss.length : Int) - 1) = ((y.ss.length - 1 : Nat) : Int) := by rw [IntKind.wrap_i64]; omega
        replace pF := kept_cell HB.out pF
        replace pT := kept_cell HB.out pT
        by_cases h1 : f < F0
        · have t1 : decide (f < F0) = true := decide_eq_true h1
          clear EO
          have r0 := KR.out.at_ 0 rfl
          have r1 := KR.out.at_ 1 rfl
          have r2 := KR.out.at_ 2 rfl
          have r3 := KR.out.at_ 3 rfl
          have r4 := KR.out.at_ 4 rfl
          have r5 := KR.out.at_ 5 rfl
          have fr0 := KR.out.frozen 0
          have fr1 := KR.out.frozen 1
          have fr2 := KR.out.frozen 2
          have fr3 := KR.out.frozen 3
          have fr4 := KR.out.frozen 4
          have fr5 := KR.out.frozen 5
          go_wp2
          exact bodyPost_ret (v := .tuple #[.agg #[.int .i64 0, .int .i64 0, .int .i64 0, .int .i64 0, .int .i64 0, .int .i64 0], .int .i64 16]) (by simp [results, Try.results12, go_sem, r0, r1, r2, r3, r4, r5]) rfl ⟨by rw [E.out] <;> rfl, below_set6 HB.out (Nat.le_succ _) _ _ _ _ _ _⟩
        · have t1 : decide (f < F0) = false := decide_eq_false h1
          have t2 : decide (T0 < t) = true := by have h := EO.out; rw [t1] at h; simpa using h
          clear EO
          have r0 := KR.out.at_ 0 rfl
          have r1 := KR.out.at_ 1 rfl
          have r2 := KR.out.at_ 2 rfl
          have r3 := KR.out.at_ 3 rfl
          have r4 := KR.out.at_ 4 rfl
          have r5 := KR.out.at_ 5 rfl
          have fr0 := KR.out.frozen 0
          have fr1 := KR.out.frozen 1
          have fr2 := KR.out.frozen 2
          have fr3 := KR.out.frozen 3
          have fr4 := KR.out.frozen 4
          have fr5 := KR.out.frozen 5
          go_wp2
          exact bodyPost_ret (v := .tuple #[.agg #[.int .i64 0, .int .i64 0, .int .i64 0, .int .i64 0, .int .i64 0, .int .i64 0], .int .i64 16]) (by simp [results, Try.results12, go_sem, r0, r1, r2, r3, r4, r5]) rfl ⟨by rw [E.out] <;> rfl, below_set6 HB.out (Nat.le_succ _) _ _ _ _ _ _⟩
      · replace E0 := Lib.hid ((E0.out.trans (if_neg ho)).trans (ovR_eq _ _ _))
        obtain ⟨t1, t2⟩ : decide (f < F0) = false ∧ decide (T0 < t) = false := by
          have : outT y.ss f t = false := by cases h : outT y.ss f t with | true => exact absurd h ho | false => rfl
          rw [EO] at this
          exact Bool.or_eq_false_iff.1 this
        clear EO ho
        refine (callsIn_wide (n := 5)).1 ?_
        refine callsIn_of_wp_marks Try.func12 rfl trivial ?_ rfl
        refine wpIn_wide.2 ?_
        simp only [Try.ntmps12, List.size_toArray, List.length_cons, List.length_nil, Nat.reduceAdd, Nat.reduceSub, Array.replicate_succ, Array.replicate_zero, List.push_toArray, List.append_toArray, List.nil_append, List.cons_append]
        go_wp2_with (fail)
        generalize hwz : (w.alloc (.cells #[.slice A bs.length c] 24)).alloc (.cells #[.int .i64 0, .int .i64 0, .int .i64 0, .int .i64 0, .int .i64 0, .int .i64 0] 38) = wz at *
        have KE : Hid (BlkV wz w.heap.size 24 #[.slice A bs.length c]) := by rw [← hwz]; exact (BlkV.fresh rfl _ _).alloc _
        have KR : Hid (BlkV wz (w.heap.size + 1) 38 #[.int .i64 0, .int .i64 0, .int .i64 0, .int .i64 0, .int .i64 0, .int .i64 0]) := by rw [← hwz]; exact BlkV.fresh (by simp) _ _
        have HB : Hid (Below w.heap.size w wz) := by rw [← hwz]; exact below_mono (blw1 _ _) (blw1 _ _)
        clear hwz
        refine (eget_any bs A c B i wz (S.out.below HB.out)).mono ?_
        rintro e w1 ⟨rfl, hb⟩
        replace KE := Lib.hid (KE.out.keep hb)
        replace KR := Lib.hid (KR.out.keep hb)
        replace HB := Lib.hid (below_mono HB.out hb)
        clear hb
        rw [h0, ← hy]
        clear h0 hne hy
        dsimp only
        rw [eA]
        go_upto_region 2 with fail
        generalize hwx : w1.alloc (.cells #[.string ⟨y.nm.toArray⟩, .int .i64 y.gm, .int .i64 y.rd, .slice (some ⟨b0, o0, none⟩) y.ss.length y.c] 34) = wx at *
        have KY : Hid (BlkV wx w1.heap.size 34 #[.string ⟨y.nm.toArray⟩, .int .i64 y.gm, .int .i64 y.rd, .slice (some ⟨b0, o0, none⟩) y.ss.length y.c]) := by rw [← hwx]; exact BlkV.fresh rfl _ _
        replace KR : Hid (BlkV wx (w.heap.size + 1) 38 #[.int .i64 0, .int .i64 0, .int .i64 0, .int .i64 0, .int .i64 0, .int .i64 0]) := by rw [← hwx]; exact KR.out.alloc _
        replace HB : Hid (Below w.heap.size w wx) := by rw [← hwx]; exact below_mono HB.out (blw1 _ _)
        have hgy := HB.out.size
        skip
        clear hwx
        have y0 := KY.out.at_ 0 rfl
        have y1 := KY.out.at_ 1 rfl
        have y2 := KY.out.at_ 2 rfl
        have y3 := KY.out.at_ 3 rfl
        have hln : IntKind.i64.wrap ((y.ss.length : Int) - 1) = ((y.ss.length - 1 : Nat) : Int) := by rw [IntKind.wrap_i64]; omega
        replace pF := kept_cell HB.out pF
        replace pT := kept_cell HB.out pT
        go_upto_region 9 with fail
        have lgr0 := KR.out.lt
        generalize hwq : wx.alloc (.cells #[.int .i64 0, .int .i64 0, .int .i64 0, .int .i64 0, .int .i64 0, .int .i64 0] 38) = wq at *
        have hbq : Below wx.heap.size wx wq := by rw [← hwq]; exact blw1 _ _
        have KO : Hid (BlkV wq wx.heap.size 38 #[.int .i64 0, .int .i64 0, .int .i64 0, .int .i64 0, .int .i64 0, .int .i64 0]) := by rw [← hwq]; exact BlkV.fresh rfl _ _
        replace KY := Lib.hid (KY.out.keep hbq)
        replace KR := Lib.hid (KR.out.keep hbq)
        replace HB := Lib.hid (below_mono HB.out hbq)
        clear hwq hbq y0 y1 y2 y3 t1 t2 tf hln pF pT
        have lgo := KO.out.lt
        have lgy := KY.out.lt
        skip
        go_cut [13] from 20 to 53 (fun s13 wc => ∃ gn, s13 = .pointer (some ⟨gn, 0, none⟩) ∧ wq.heap.size ≤ gn ∧ BlkV wc gn 3 #[.int .i64 0] ∧ Below wq.heap.size wq wc)
        case first => (go_wp2_with fail; go_meet; exact ⟨_, rfl, Nat.le_refl _, BlkV.fresh rfl _ _, blw1 _ _⟩)
        case rest =>
          obtain ⟨gn, rfl, hgn, kn, hbc⟩ := hcut
          replace KO := Lib.hid (KO.out.keep hbc)
          replace KY := Lib.hid (KY.out.keep hbc)
          replace KR := Lib.hid (KR.out.keep hbc)
          replace HB := Lib.hid (below_mono HB.out hbc)
          have KN := Lib.hid kn
          clear kn hbc
          have lgn := KN.out.lt
          have lgr := KR.out.lt
          have lgy2 := KY.out.lt
          have y0 := KY.out.at_ 0 rfl
          have y1 := KY.out.at_ 1 rfl
          have y2 := KY.out.at_ 2 rfl
          have y3 := KY.out.at_ 3 rfl
          go_wp2_with fail
          have hd := callsIn_wide.1 (during_in Fence.wide 5 trivial rfl y f t wc)
          rw [eA] at hd
          refine hd.mono ?_
          clear hd
          rintro e w' ⟨rfl, rfl⟩
          clear y0 y1 y2 y3 lgy2
          go_wp2_with fail
          have Q1 : Hid (BlkV (((wc.alloc (.cells #[.string ⟨y.nm.toArray⟩, .int .i64 y.gm, .int .i64 y.rd, .slice (some ⟨b0, o0, none⟩) y.ss.length y.c] 34)).alloc (.cells #[.int .i64 f] 2)).alloc (.cells #[.int .i64 t] 2)) wc.heap.size 34 #[.string ⟨y.nm.toArray⟩, .int .i64 y.gm, .int .i64 y.rd, .slice (some ⟨b0, o0, none⟩) y.ss.length y.c]) := ((BlkV.fresh rfl _ _).alloc _).alloc _
          have Q2 : Hid ((((wc.alloc (.cells #[.string ⟨y.nm.toArray⟩, .int .i64 y.gm, .int .i64 y.rd, .slice (some ⟨b0, o0, none⟩) y.ss.length y.c] 34)).alloc (.cells #[.int .i64 f] 2)).alloc (.cells #[.int .i64 t] 2)).cell? ⟨wc.heap.size + 2, 0, none⟩ = some (.int .i64 t)) := (BlkV.fresh (by simp) _ _).at_ 0 rfl
          have Q3 : Hid ((((wc.alloc (.cells #[.string ⟨y.nm.toArray⟩, .int .i64 y.gm, .int .i64 y.rd, .slice (some ⟨b0, o0, none⟩) y.ss.length y.c] 34)).alloc (.cells #[.int .i64 f] 2)).alloc (.cells #[.int .i64 t] 2)).cell? ⟨wc.heap.size + 1, 0, none⟩ = some (.int .i64 f)) := ((BlkV.fresh (by simp) _ _).alloc _).at_ 0 rfl
          have hbW : Below wc.heap.size wc (((wc.alloc (.cells #[.string ⟨y.nm.toArray⟩, .int .i64 y.gm, .int .i64 y.rd, .slice (some ⟨b0, o0, none⟩) y.ss.length y.c] 34)).alloc (.cells #[.int .i64 f] 2)).alloc (.cells #[.int .i64 t] 2)) := below_mono (below_mono (blw1 _ _) (blw1 _ _)) (blw1 _ _)
          have hsW : (((wc.alloc (.cells #[.string ⟨y.nm.toArray⟩, .int .i64 y.gm, .int .i64 y.rd, .slice (some ⟨b0, o0, none⟩) y.ss.length y.c] 34)).alloc (.cells #[.int .i64 f] 2)).alloc (.cells #[.int .i64 t] 2)).heap.size = wc.heap.size + 3 := by simp
          replace KO := Lib.hid (KO.out.keep hbW)
          replace KN := Lib.hid (KN.out.keep hbW)
          replace KR := Lib.hid (KR.out.keep hbW)
          replace HB := Lib.hid (below_mono HB.out hbW)
          have hszc : w.heap.size ≤ wc.heap.size := by have := lgr; omega
          generalize hW0 : ((wc.alloc (.cells #[.string ⟨y.nm.toArray⟩, .int .i64 y.gm, .int .i64 y.rd, .slice (some ⟨b0, o0, none⟩) y.ss.length y.c] 34)).alloc (.cells #[.int .i64 f] 2)).alloc (.cells #[.int .i64 t] 2) = W0 at *
          clear hW0 hbW KY KE
          skip
          skip
          have hgo1 : wx.heap.size < wq.heap.size := lgo
          generalize wx.heap.size = go at *
          have hne : go ≠ gn := by omega
          have hgo : go < wc.heap.size := by omega
          refine (wpIn_wide (n := 5)).1 ?_
          refine wpIn_rangeFunc_ownH (α := InS y f t) rfl (by omega) (gf := 41) (lb := #[.pointer (some ⟨wc.heap.size, 0, none⟩), .pointer (some ⟨wc.heap.size + 2, 0, none⟩), .pointer (some ⟨wc.heap.size + 1, 0, none⟩)]) rfl trivial (enters_of Try.func41 (by kernel_rfl) rfl)
            (during1_sub Fence.wide 4 trivial rfl (by omega) wc.heap.size (wc.heap.size + 2) (wc.heap.size + 1) y f t B W0 hlen (KpO w.heap.size W0.heap.size go gn) (KpO w.heap.size W0.heap.size go gn W0) (fun _ h => KpO.of h (Nat.le_refl _) (by omega)) (fun _ _ h k => h.trans k) (fun _ o h => h.trans (KpO.of (blw1 _ o) h.kp.size (by omega)))
              (fun _ h => ⟨by rw [eA]; exact (h.kp.block wc.heap.size (by omega) (by omega) (by omega)).trans Q1.out, h.kp.cell Q2.out (by show wc.heap.size + 2 < _; omega) (by show wc.heap.size + 2 ≠ _; omega) (by show wc.heap.size + 2 ≠ _; omega), h.kp.cell Q3.out (by show wc.heap.size + 1 < _; omega) (by show wc.heap.size + 1 ≠ _; omega) (by show wc.heap.size + 1 ≠ _; omega), (OB.out.below (HB.out.trans h.hb)).sl⟩))
            (fun h k => h.trans k) (fun W l o o' hl ho _ _ => KpO.putObj W l o o' hl (by omega) ho) (Below.refl _ _) (fun _ => rfl)
            (fun pre W => OvI w.heap.size go gn W0 f t (pre.map Subtype.val) W) (fun _ _ _ => False) (fun pre W W' row h hg hr => h.own (by omega) (by omega) (by omega) hg hr) (fun _ _ _ _ _ hs _ _ => hs) ⟨KpO.refl _ _ _ _ _, KO.out, KN.out⟩
            (fun s a' W => ∃ g h, a' = { tmps := #[.agg #[.slice A bs.length c], .int .i64 i, .int .i64 f, .int .i64 t, .pointer (some ⟨w.heap.size, 0, none⟩), undef, undef, undef, .pointer (some ⟨w.heap.size + 1, 0, none⟩), .int .i64 0, .pointer (some ⟨w1.heap.size, 0, none⟩), .int .i64 0, .pointer (some ⟨go, 0, none⟩), .pointer (some ⟨gn, 0, none⟩), .pointer (some ⟨g, 0, none⟩), .pointer (some ⟨h, 0, none⟩), undef, undef, undef, undef, u20, u21, u22, u23, u24, u25, u26, u27, u28, u29, u30, u31, u32, u33, u34, u35, u36, u37, u38, u39, u40, u41, u42, u43, u44, u45, u46, u47, u48, u49, u50, u51, u52, u53, undef, .agg #[.string ⟨y.nm.toArray⟩, .int .i64 y.gm, .int .i64 y.rd, .slice (some ⟨b0, o0, none⟩) y.ss.length y.c], .int .i64 f, .int .i64 t, .func (.func 41) #[] #[.pointer (some ⟨wc.heap.size, 0, none⟩), .pointer (some ⟨wc.heap.size + 2, 0, none⟩), .pointer (some ⟨wc.heap.size + 1, 0, none⟩)], .agg #[.int .i64 s.1.F, .int .i64 s.1.T, .slice s.1.A0 s.1.l0.length s.1.c0, .slice s.1.A1 s.1.l1.length s.1.c1, .slice s.1.A2 s.1.l2.length s.1.c2], .agg #[.int .i64 (max s.1.F f), .int .i64 (min s.1.T t)], undef, undef, undef, undef, undef, undef, undef, undef, undef, undef, undef, undef, undef, undef, undef, undef, undef, undef, undef, undef, undef, undef, undef, undef, undef, undef, undef, undef, undef, undef, undef, undef, undef, undef, undef, undef, undef, undef, undef, undef, undef, undef, undef, undef, undef, undef, undef, undef, undef, undef, undef, undef, undef, undef, undef, undef, undef, undef, undef, undef, undef, undef, undef, undef, undef, undef, undef, undef, undef, undef, undef, undef, undef, undef, undef, undef, undef, undef, undef, undef, undef], defers := [] } ∧ BlkV W g 31 #[.int .i64 s.1.F, .int .i64 s.1.T, .slice s.1.A0 s.1.l0.length s.1.c0, .slice s.1.A1 s.1.l1.length s.1.c1, .slice s.1.A2 s.1.l2.length s.1.c2] ∧ BlkV W h 72 #[.int .i64 (max s.1.F f), .int .i64 (min s.1.T t)] ∧ W0.heap.size ≤ g ∧ g < h)
            (fun s a' _ W W' row hh hg hr => by obtain ⟨g, h, e, k1, k2, l1, l2⟩ := hh; exact ⟨g, h, e, blk_cells k1 hg hr, blk_cells k2 hg hr, l1, l2⟩) ?assign ?body ?done ?stop
          case assign =>
            rintro l pre s W K hI hK
            simp only [encG]
            gi_wp2
            refine hK _ _ (((KeepsOthers.alloc W _).trans (KeepsOthers.alloc _ _)).from _) (KpO.of (below_mono (blw1 _ _) (blw1 _ _)) hI.kp.kp.size (by omega)) (hI.keep (by omega) (below_mono (blw1 _ _) (blw1 _ _))) ⟨W.heap.size, W.heap.size + 1, rfl, (BlkV.fresh rfl _ _).alloc _, BlkV.fresh (by simp) _ _, hI.kp.kp.size, Nat.lt_succ_self _⟩
          case body =>
            rintro l pre ⟨s, hsm, hsr⟩ a' W hl hrec hI ⟨gs, gl, rfl, kgs, kgl, lgs, lgl⟩ hpl
            dsimp only at kgs kgl ⊢
            have OK := OS.out s hsm
            obtain ⟨p1, p2, p3, p4, p5, q0, q1, q2⟩ := seg_parts OK
            obtain ⟨i1, i2, i3, i4, i5⟩ := ovM_in (f := f) (t := t) p1 (by omega) hsr
            obtain ⟨a, ha⟩ : ∃ a, a = ovA s f := ⟨_, rfl⟩
            obtain ⟨b, hb⟩ : ∃ b, b = ovB s t := ⟨_, rfl⟩
            have hm : ovM s f t = a + (b - a) / 2 := by unfold ovM; rw [← ha, ← hb]
            have hn : ovN s f t = b - a + 1 := by unfold ovN; rw [← ha, ← hb]
            rw [show max s.F f = a from ha.symm, show min s.T t = b from hb.symm] at kgl ⊢
            rw [← ha] at i1 i2 i4
            rw [← hb] at i2 i3 i5
            rw [hm] at i4 i5
            have hd6 := ovV_next f t (pre.map Subtype.val) s
            rw [List.length_map] at hd6
            have MG := Lib.hid (fun k (hk : k < 3) => mg_at s f t (ovV f t (pre.map Subtype.val)) pre.length hk)
            rw [← hd6] at MG
            have hkn := hI.kn
            rw [List.length_map] at hkn
            have X0 : Hid (OvX w.heap.size W0.heap.size go gn gs gl W W (ovV f t (pre.map Subtype.val)) pre.length s a b) := ⟨KeepsFrom.refl _ _, KpO.refl _ _ _ _ _, hI.ko, hkn, kgs, kgl, hI.kp.kp.size⟩
            have HBW : Hid (Below w.heap.size w W) := HB.out.trans hI.kp.hb
            have HKW := Lib.hid hI.kp
            have OM : Hid (∀ V, Below w.heap.size w V → OkS V B s) := fun V h => ((OB.out.below h).sl).all s hsm
            have CP : Hid (∀ V, Below w.heap.size w V → Calls Try.prog 17 #[.agg #[.int .i64 s.F, .int .i64 s.T, .slice s.A0 s.l0.length s.c0, .slice s.A1 s.l1.length s.c1, .slice s.A2 s.l2.length s.c2], .int .i64 (a + (b - a) / 2)] V fun e w' => e = .returned (.agg #[.int .i64 (plV s (ovM s f t)).l0, .int .i64 (plV s (ovM s f t)).h0, .int .i64 (plV s (ovM s f t)).l1, .int .i64 (plV s (ovM s f t)).h1, .int .i64 (plV s (ovM s f t)).l2, .int .i64 (plV s (ovM s f t)).h2]) ∧ Below V.heap.size V w') := fun V h => by
              have z := eplace_any s (ovM s f t) B V (OM.out V h) OK (by omega) (by omega)
              rw [hm] at z ⊢
              exact z
            have CW : Hid (∀ k : Nat, k < 3 → ∃ Al lk cl, (∀ W, (Instr.index 29 (.agg #[.slice s.A0 s.l0.length s.c0, .slice s.A1 s.l1.length s.c1, .slice s.A2 s.l2.length s.c2]) (.int .i64 k)).run Try.prog W = .ok (.slice Al lk cl) W) ∧ 0 ≤ ovW s (s.l k) f t ∧ ovW s (s.l k) f t ≤ 337769972052787200 ∧ ∀ V, Below w.heap.size w V → Calls Try.prog 26 #[.slice Al lk cl, .int .i64 (b - a + 1), .int .i64 (s.T - s.F)] V fun e w' => e = .returned (.int .i64 (ovW s (s.l k) f t)) ∧ Below V.heap.size V w') := fun k hk => by
              have nn : 0 ≤ b - a + 1 ∧ b - a + 1 ≤ 2 * (s.T - s.F) := by omega
              have e6 : ∀ l, ovW s l f t = swI l (b - a + 1) (s.T - s.F) := fun l => by unfold ovW; rw [hn]
              obtain rfl | rfl | rfl : k = 0 ∨ k = 1 ∨ k = 2 := by omega
              · exact ⟨s.A0, s.l0.length, s.c0, fun W => by rfl, by rw [e6]; exact (swI_bd q0 OK.n0 nn.1 nn.2 (by omega)).1, by rw [e6]; exact (swI_bd q0 OK.n0 nn.1 nn.2 (by omega)).2, fun V h => by rw [e6]; exact esway_any s.l0 s.A0 s.c0 B _ _ V (OM.out V h).i0 q0 OK.n0 nn.1 nn.2 (by omega) (by omega)⟩
              · exact ⟨s.A1, s.l1.length, s.c1, fun W => by rfl, by rw [e6]; exact (swI_bd q1 OK.n1 nn.1 nn.2 (by omega)).1, by rw [e6]; exact (swI_bd q1 OK.n1 nn.1 nn.2 (by omega)).2, fun V h => by rw [e6]; exact esway_any s.l1 s.A1 s.c1 B _ _ V (OM.out V h).i1 q1 OK.n1 nn.1 nn.2 (by omega) (by omega)⟩
              · exact ⟨s.A2, s.l2.length, s.c2, fun W => by rfl, by rw [e6]; exact (swI_bd q2 OK.n2 nn.1 nn.2 (by omega)).1, by rw [e6]; exact (swI_bd q2 OK.n2 nn.1 nn.2 (by omega)).2, fun V h => by rw [e6]; exact esway_any s.l2 s.A2 s.c2 B _ _ V (OM.out V h).i2 q2 OK.n2 nn.1 nn.2 (by omega) (by omega)⟩
            have OP := Lib.hid (fun k (hk : k < 3) => okI6 ⟨(plV_okV s (ovM s f t)).a, (plV_okV s (ovM s f t)).b, (plV_okV s (ovM s f t)).c⟩ hk)
            have hIp := hI.ko
            clear hI hkn kgs kgl hm hn ha hb q0 q1 q2
            replace hd6 := Lib.hid hd6
            generalize plV s (ovM s f t) = p at *
            obtain ⟨u, hu⟩ : ∃ u, u = ovV f t (pre.map Subtype.val) := ⟨_, rfl⟩
            rw [← hu] at X0 MG
            obtain ⟨d, hdd⟩ : ∃ d, d = ovV f t (pre.map Subtype.val ++ [s]) := ⟨_, rfl⟩
            rw [← hdd] at MG
            replace hdd := Lib.hid hdd
            clear hu hd6
            obtain ⟨n, hn⟩ : ∃ n, n = pre.length := ⟨_, rfl⟩
            rw [← hn] at X0 MG
            replace hn := Lib.hid hn
            have w1' : -9223372036854775808 ≤ b - a ∧ b - a ≤ 9223372036854775807 := by omega
            have w2 : (b - a).tdiv 2 = (b - a) / 2 := Int.tdiv_eq_ediv_of_nonneg (by omega)
            have w3 : -9223372036854775808 ≤ a + (b - a) / 2 ∧ a + (b - a) / 2 ≤ 9223372036854775807 := by omega
            have w4 : -9223372036854775808 ≤ (b - a) / 2 ∧ (b - a) / 2 ≤ 9223372036854775807 := by omega
            have k0 := X0.out.ks.at_ 0 rfl
            have k1 := X0.out.ks.at_ 1 rfl
            have k2 := X0.out.ks.at_ 2 rfl
            have k3 := X0.out.ks.at_ 3 rfl
            have k4 := X0.out.ks.at_ 4 rfl
            have l0 := X0.out.kl.at_ 0 rfl
            have l1 := X0.out.kl.at_ 1 rfl
            gi_wp2_with fail
            refine ⟨trivial, ?_⟩
            refine (CallsIn.inRound l (callsIn_wide.2 (CP.out _ HBW.out))).mono ?_
            rintro e v1 ⟨rfl, hb⟩
            dsimp only
            have X1 := Lib.hid (X0.out.call (by omega) hb)
            clear k0 k1 k2 k3 k4 l0 l1 hb CP X0
            have k2 := X1.out.ks.at_ 2 rfl
            have k3 := X1.out.ks.at_ 3 rfl
            have k4 := X1.out.ks.at_ 4 rfl
            have hlk := X1.out.ks.lt
            gi_wp2
            generalize hv2 : v1.alloc (.cells #[.int .i64 p.l0, .int .i64 p.h0, .int .i64 p.l1, .int .i64 p.h1, .int .i64 p.l2, .int .i64 p.h2] 38) = v2 at *
            have hbv : Below v1.heap.size v1 v2 := by rw [← hv2]; exact blw1 _ _
            have KV : Hid (BlkV v2 v1.heap.size 38 (VH (lo6 p) (hi6 p))) := by rw [← hv2]; exact BlkV.fresh rfl _ _
            have X2 := Lib.hid (X1.out.call (by omega) hbv)
            have g1 := X1.out.ko.lt
            have g2 := X1.out.kn.lt
            have g3 := X1.out.ks.lt
            have g4 := X1.out.kl.lt
            have g5 := X1.out.sB
            clear hv2 hbv k2 k3 k4 hlk X1
            have hgv : go ≠ v1.heap.size ∧ gn ≠ v1.heap.size ∧ gs ≠ v1.heap.size ∧ gl ≠ v1.heap.size := by omega
            clear g1 g2 g3 g4
            generalize v1.heap.size = gv at *
            gi_loopw [74] (fun s74 wr => ∃ (k : Nat) (lo hi : Nat → Int), k ≤ 3 ∧ s74 = .int .i64 k ∧ OvX w.heap.size W0.heap.size go gn gs gl W wr u n s a b ∧ BlkV wr gv 38 (VH lo hi) ∧ ∀ j, j < 3 → lo j = (if j < k then lo6 d j else lo6 p j) ∧ hi j = (if j < k then hi6 d j else hi6 p j)) (fun v _ => 3 - (intOf v).toNat)
            case atStart => exact ⟨0, _, _, by omega, rfl, X2.out, KV.out, fun j _ => ⟨rfl, rfl⟩⟩
            case round =>
              clear X2 KV
              obtain ⟨k, lo, hi, hk, rfl, hX, hV, hL⟩ := hrel
              have X3 := Lib.hid hX
              have KV := Lib.hid hV
              clear hX hV
              by_cases hk3 : k < 3
              · have tk : decide ((k : Int) < 3) = true := decide_eq_true (by omega)
                obtain ⟨Al, lk, cl, hidx, ow0, ow1, CWk⟩ := CW.out k hk3
                replace CWk := Lib.hid CWk
                obtain ⟨m1, m2⟩ := MG.out k hk3
                obtain ⟨o1, o2, o3⟩ := OP.out k hk3
                have e1 : lo k = lo6 p k := by rw [(hL k hk3).1, if_neg (Nat.lt_irrefl k)]
                have e2 : hi k = hi6 p k := by rw [(hL k hk3).2, if_neg (Nat.lt_irrefl k)]
                rw [← e1] at m1 o1 o2
                rw [← e2] at m2 o1 o3
                skip
                generalize ovW s (s.l k) f t = v at *
                have HL := Lib.hid hL
                replace m1 := Lib.hid m1
                replace m2 := Lib.hid m2
                clear hL e1 e2
                have w5 : -9223372036854775808 ≤ b - a + 1 ∧ b - a + 1 ≤ 9223372036854775807 := by omega
                have w6 : -9223372036854775808 ≤ s.T - s.F ∧ s.T - s.F ≤ 9223372036854775807 := by omega
                have w7 : IntKind.i64.wrap (lo k - v) = lo k - v := by rw [IntKind.wrap_i64]; omega
                have w8 : IntKind.i64.wrap (hi k + v) = hi k + v := by rw [IntKind.wrap_i64]; omega
                have i0 : (0 : Int) ≤ (k : Int) := by omega
                have i3' : (k : Int) < 3 := by omega
                have k0 := X3.out.ks.at_ 0 rfl
                have k1 := X3.out.ks.at_ 1 rfl
                have l0 := X3.out.kl.at_ 0 rfl
                have l1 := X3.out.kl.at_ 1 rfl
                gi_wp2_with fail
                refine ⟨trivial, ?_⟩
                refine (CallsIn.inRound l (callsIn_wide.2 (CWk.out _ (HBW.out.trans X3.out.kp.hb)))).mono ?_
                rintro e v3 ⟨rfl, hb⟩
                dsimp only
                have X4 := Lib.hid (X3.out.call (by omega) hb)
                have KV4 := Lib.hid (KV.out.keep hb)
                clear k0 k1 l0 l1 hb X3 KV CWk
                have c0 := KV4.out.at_ _ (VH_at lo hi hk3).1
                have c1 := KV4.out.at_ _ (VH_at lo hi hk3).2
                have f0 := KV4.out.frozen (k * 2)
                have f1 := KV4.out.frozen (k * 2 + 1)
                have KA := Lib.hid (KV4.out.put (k * 2) (.int .i64 (lo k - v)) (VH_lo lo hi hk3 _))
                have KB := Lib.hid (KA.out.put (k * 2 + 1) (.int .i64 (hi k + v)) (VH_hi _ hi hk3 _))
                have d0 := KA.out.at_ _ (VH_at _ hi hk3).2
                have hgB : W0.heap.size ≤ gv := by omega
                have XA := Lib.hid ((X4.out.far (by omega) hgB hgv (k * 2) (.int .i64 (lo k - v))).far (by omega) hgB hgv (k * 2 + 1) (.int .i64 (hi k + v)))
                have n0 := XA.out.kn.at_ 0 rfl
                clear KA X4 KV4
                by_cases hn0 : 0 < n
                · have tn : decide ((0 : Int) < (n : Int)) = true := decide_eq_true (by omega)
                  have tn' : decide (0 < n) = true := decide_eq_true hn0
                  gi_wp2_with fail
                  generalize hv4 : (v3.setCell ⟨gv, k * 2, none⟩ (.int .i64 (lo k - v))).setCell ⟨gv, k * 2 + 1, none⟩ (.int .i64 (hi k + v)) = v4 at *
                  clear hv4 c0 c1 d0 n0 f0 f1
                  have XD := Lib.hid (XA.out.call (by omega) (Below.refl _ _).drew)
                  have KD := Lib.hid (KB.out.keep (Below.refl _ _).drew)
                  have KU : Hid (BlkV v4.drew go 38 (VH (lo6 u) (hi6 u))) := XD.out.ko
                  have q0 := KU.out.at_ _ (VH_at (lo6 u) (hi6 u) hk3).1
                  have q1 := KU.out.at_ _ (VH_at (lo6 u) (hi6 u) hk3).2
                  clear XA KB
                  refine wpIn_region_heldR (S := fun w' => w'.cell? ⟨go, k * 2, none⟩ = some (.int .i64 (lo6 u k)) ∧ w'.cell? ⟨go, k * 2 + 1, none⟩ = some (.int .i64 (hi6 u k))) (by kernel_rfl) (by kernel_rfl) (fun ⟨_, _, h⟩ => h) ⟨q0, q1⟩ (fun hHeld => ?_)
                  clear q0 q1 KU
                  generalize v4.drew = D at *
                  refine wpAnyH_take (i := 0) (v := .int .i64 k) rfl (by kernel_rfl) (by kernel_rfl) (by kernel_rfl) (fun _ _ _ h => h) (Or.inl ⟨by rfl, by intro w hSw; (try dsimp only at hSw); go_simp⟩) (by assumption) ?_
                  (try simp only [Act.put, List.getElem_toArray, List.getElem_cons_zero, List.setIfInBounds_toArray, List.set_cons_zero, List.set_cons_succ])
                  refine wpAnyH_take (i := 1) (v := .int .i64 k) rfl (by kernel_rfl) (by kernel_rfl) (by kernel_rfl) (fun _ _ _ h => h) (Or.inl ⟨by rfl, by intro w hSw; (try dsimp only at hSw); go_simp⟩) (by assumption) ?_
                  (try simp only [Act.put, List.getElem_toArray, List.getElem_cons_zero, List.getElem_cons_succ, List.setIfInBounds_toArray, List.set_cons_zero, List.set_cons_succ])
                  refine wpAnyH_take (i := 2) (v := .int .i64 k) rfl (by kernel_rfl) (by kernel_rfl) (by kernel_rfl) (fun _ _ _ h => h) (Or.inl ⟨by rfl, by intro w hSw; (try dsimp only at hSw); go_simp⟩) (by assumption) ?_
                  (try simp only [Act.put, List.getElem_toArray, List.getElem_cons_zero, List.getElem_cons_succ, List.setIfInBounds_toArray, List.set_cons_zero, List.set_cons_succ])
                  refine wpAnyH_take (i := 3) (v := .pointer (some ⟨gv, k * 2, none⟩)) rfl (by kernel_rfl) (by kernel_rfl) (by kernel_rfl) (fun _ _ _ h => h) (Or.inl ⟨by rfl, by intro w hSw; (try dsimp only at hSw); go_simp⟩) (by assumption) ?_
                  (try simp only [Act.put, List.getElem_toArray, List.getElem_cons_zero, List.getElem_cons_succ, List.setIfInBounds_toArray, List.set_cons_zero, List.set_cons_succ])
                  refine wpAnyH_take (i := 4) (v := .pointer (some ⟨gv, k * 2, none⟩)) rfl (by kernel_rfl) (by kernel_rfl) (by kernel_rfl) (fun _ _ _ h => h) (Or.inl ⟨by rfl, by intro w hSw; (try dsimp only at hSw); go_simp⟩) (by assumption) ?_
                  (try simp only [Act.put, List.getElem_toArray, List.getElem_cons_zero, List.getElem_cons_succ, List.setIfInBounds_toArray, List.set_cons_zero, List.set_cons_succ])
                  refine wpAnyH_take (i := 6) (v := .int .i64 k) rfl (by kernel_rfl) (by kernel_rfl) (by kernel_rfl) (fun _ _ _ h => h) (Or.inl ⟨by rfl, by intro w hSw; (try dsimp only at hSw); go_simp⟩) (by assumption) ?_
                  (try simp only [Act.put, List.getElem_toArray, List.getElem_cons_zero, List.getElem_cons_succ, List.setIfInBounds_toArray, List.set_cons_zero, List.set_cons_succ])
                  refine wpAnyH_take (i := 7) (v := .pointer (some ⟨go, k * 2, none⟩)) rfl (by kernel_rfl) (by kernel_rfl) (by kernel_rfl) (fun _ _ _ h => h) (Or.inl ⟨by rfl, by intro w hSw; (try dsimp only at hSw); go_simp⟩) (by assumption) ?_
                  (try simp only [Act.put, List.getElem_toArray, List.getElem_cons_zero, List.getElem_cons_succ, List.setIfInBounds_toArray, List.set_cons_zero, List.set_cons_succ])
                  refine wpAnyH_take (i := 8) (v := .pointer (some ⟨go, k * 2, none⟩)) rfl (by kernel_rfl) (by kernel_rfl) (by kernel_rfl) (fun _ _ _ h => h) (Or.inl ⟨by rfl, by intro w hSw; (try dsimp only at hSw); go_simp⟩) (by assumption) ?_
                  (try simp only [Act.put, List.getElem_toArray, List.getElem_cons_zero, List.getElem_cons_succ, List.setIfInBounds_toArray, List.set_cons_zero, List.set_cons_succ])
                  refine wpAnyH_take (i := 9) (v := .int .i64 (lo6 u k)) rfl (by kernel_rfl) (by kernel_rfl) (by kernel_rfl) (fun _ _ _ h => h) (Or.inl ⟨by rfl, by intro w hSw; (try dsimp only at hSw); go_simp⟩) (by assumption) ?_
                  (try simp only [Act.put, List.getElem_toArray, List.getElem_cons_zero, List.getElem_cons_succ, List.setIfInBounds_toArray, List.set_cons_zero, List.set_cons_succ])
                  refine wpAnyH_take (i := 11) (v := .int .i64 k) rfl (by kernel_rfl) (by kernel_rfl) (by kernel_rfl) (fun _ _ _ h => h) (Or.inl ⟨by rfl, by intro w hSw; (try dsimp only at hSw); go_simp⟩) (by assumption) ?_
                  (try simp only [Act.put, List.getElem_toArray, List.getElem_cons_zero, List.getElem_cons_succ, List.setIfInBounds_toArray, List.set_cons_zero, List.set_cons_succ])
                  refine wpAnyH_take (i := 12) (v := .pointer (some ⟨gv, k * 2, none⟩)) rfl (by kernel_rfl) (by kernel_rfl) (by kernel_rfl) (fun _ _ _ h => h) (Or.inl ⟨by rfl, by intro w hSw; (try dsimp only at hSw); go_simp⟩) (by assumption) ?_
                  (try simp only [Act.put, List.getElem_toArray, List.getElem_cons_zero, List.getElem_cons_succ, List.setIfInBounds_toArray, List.set_cons_zero, List.set_cons_succ])
                  refine wpAnyH_take (i := 13) (v := .pointer (some ⟨gv, k * 2 + 1, none⟩)) rfl (by kernel_rfl) (by kernel_rfl) (by kernel_rfl) (fun _ _ _ h => h) (Or.inl ⟨by rfl, by intro w hSw; (try dsimp only at hSw); go_simp⟩) (by assumption) ?_
                  (try simp only [Act.put, List.getElem_toArray, List.getElem_cons_zero, List.getElem_cons_succ, List.setIfInBounds_toArray, List.set_cons_zero, List.set_cons_succ])
                  refine wpAnyH_take (i := 15) (v := .int .i64 k) rfl (by kernel_rfl) (by kernel_rfl) (by kernel_rfl) (fun _ _ _ h => h) (Or.inl ⟨by rfl, by intro w hSw; (try dsimp only at hSw); go_simp⟩) (by assumption) ?_
                  (try simp only [Act.put, List.getElem_toArray, List.getElem_cons_zero, List.getElem_cons_succ, List.setIfInBounds_toArray, List.set_cons_zero, List.set_cons_succ])
                  refine wpAnyH_take (i := 16) (v := .pointer (some ⟨go, k * 2, none⟩)) rfl (by kernel_rfl) (by kernel_rfl) (by kernel_rfl) (fun _ _ _ h => h) (Or.inl ⟨by rfl, by intro w hSw; (try dsimp only at hSw); go_simp⟩) (by assumption) ?_
                  (try simp only [Act.put, List.getElem_toArray, List.getElem_cons_zero, List.getElem_cons_succ, List.setIfInBounds_toArray, List.set_cons_zero, List.set_cons_succ])
                  refine wpAnyH_take (i := 17) (v := .pointer (some ⟨go, k * 2 + 1, none⟩)) rfl (by kernel_rfl) (by kernel_rfl) (by kernel_rfl) (fun _ _ _ h => h) (Or.inl ⟨by rfl, by intro w hSw; (try dsimp only at hSw); go_simp⟩) (by assumption) ?_
                  (try simp only [Act.put, List.getElem_toArray, List.getElem_cons_zero, List.getElem_cons_succ, List.setIfInBounds_toArray, List.set_cons_zero, List.set_cons_succ])
                  refine wpAnyH_take (i := 18) (v := .int .i64 (hi6 u k)) rfl (by kernel_rfl) (by kernel_rfl) (by kernel_rfl) (fun _ _ _ h => h) (Or.inl ⟨by rfl, by intro w hSw; (try dsimp only at hSw); go_simp⟩) (by assumption) ?_
                  (try simp only [Act.put, List.getElem_toArray, List.getElem_cons_zero, List.getElem_cons_succ, List.setIfInBounds_toArray, List.set_cons_zero, List.set_cons_succ])
                  have c0 : D.cell? ⟨gv, k * 2, none⟩ = some (.int .i64 (lo k - v)) := by have := KD.out.at_ _ (VH_at _ _ hk3).1; rwa [upI_at] at this
                  have c1 : D.cell? ⟨gv, k * 2 + 1, none⟩ = some (.int .i64 (hi k + v)) := by have := KD.out.at_ _ (VH_at _ _ hk3).2; rwa [upI_at] at this
                  refine wpAnyH_ready (rs := [5, 14]) (by kernel_rfl) (by simp) ?_
                  refine AllReadyH.cons rfl (fun K hK => ?_) (AllReadyH.cons rfl (fun K hK => ?_) AllReadyH.nil)
                  · skip
                    go_simp
                    refine hK.out _ _ (hHeld) (fun hHeld2 => ?_)
                    clear hK K hHeld
                    have hHeld := hHeld2
                    clear hHeld2
                    (try simp only [Act.put, List.getElem_toArray, List.getElem_cons_zero, List.getElem_cons_succ, List.setIfInBounds_toArray, List.set_cons_zero, List.set_cons_succ])
                    refine wpAnyH_take (i := 10) (v := .int .i64 (min (lo k - v) (lo6 u k))) rfl (by kernel_rfl) (by kernel_rfl) (by kernel_rfl) (fun _ _ _ h => h) (Or.inl ⟨by rfl, by intro w hSw; (try dsimp only at hSw); go_simp⟩) (by assumption) ?_
                    (try simp only [Act.put, List.getElem_toArray, List.getElem_cons_zero, List.getElem_cons_succ, List.setIfInBounds_toArray, List.set_cons_zero, List.set_cons_succ])
                    refine wpAnyH_ready (rs := [14]) (by kernel_rfl) (by simp) ?_
                    refine AllReadyH.cons rfl (fun K hK => ?_) AllReadyH.nil
                    go_simp
                    refine hK.out _ _ (hHeld) (fun hHeld2 => ?_)
                    clear hK K hHeld
                    have hHeld := hHeld2
                    clear hHeld2
                    (try simp only [Act.put, List.getElem_toArray, List.getElem_cons_zero, List.getElem_cons_succ, List.setIfInBounds_toArray, List.set_cons_zero, List.set_cons_succ])
                    refine wpAnyH_take (i := 19) (v := .int .i64 (max (hi k + v) (hi6 u k))) rfl (by kernel_rfl) (by kernel_rfl) (by kernel_rfl) (fun _ _ _ h => h) (Or.inl ⟨by rfl, by intro w hSw; (try dsimp only at hSw); go_simp⟩) (by assumption) ?_
                    (try simp only [Act.put, List.getElem_toArray, List.getElem_cons_zero, List.getElem_cons_succ, List.setIfInBounds_toArray, List.set_cons_zero, List.set_cons_succ])
                    refine wpAnyH_take (i := 20) (v := .pointer (some ⟨gv, k * 2, none⟩)) rfl (by kernel_rfl) (by kernel_rfl) (by kernel_rfl) (fun _ _ _ h => h) (Or.inl ⟨by rfl, by intro w hSw; (try dsimp only at hSw); go_simp⟩) (by assumption) ?_
                    (try simp only [Act.put, List.getElem_toArray, List.getElem_cons_zero, List.getElem_cons_succ, List.setIfInBounds_toArray, List.set_cons_zero, List.set_cons_succ])
                    refine wpAnyH_take (i := 21) (v := .pointer (some ⟨gv, k * 2, none⟩)) rfl (by kernel_rfl) (by kernel_rfl) (by kernel_rfl) (fun _ _ _ h => h) (Or.inl ⟨by rfl, by intro w hSw; (try dsimp only at hSw); go_simp⟩) (by assumption) ?_
                    (try simp only [Act.put, List.getElem_toArray, List.getElem_cons_zero, List.getElem_cons_succ, List.setIfInBounds_toArray, List.set_cons_zero, List.set_cons_succ])
                    refine wpAnyH_ready (rs := [22]) (by kernel_rfl) (by simp) ?_
                    refine AllReadyH.cons rfl (fun K hK => ?_) AllReadyH.nil
                    have X2 := Lib.hid (XD.out.far (by omega) hgB hgv (k * 2) (.int .i64 (min (lo k - v) (lo6 u k))))
                    have K2 := Lib.hid (KD.out.put (k * 2) (.int .i64 (min (lo k - v) (lo6 u k))) (VH_lo _ _ hk3 _))
                    have KU : Hid (BlkV (D.setCell ⟨gv, k * 2, none⟩ (.int .i64 (min (lo k - v) (lo6 u k)))) go 38 (VH (lo6 u) (hi6 u))) := X2.out.ko
                    have f0 := KD.out.frozen (k * 2)
                    go_simp
                    refine hK.out _ _ ⟨KU.out.at_ _ (VH_at (lo6 u) (hi6 u) hk3).1, KU.out.at_ _ (VH_at (lo6 u) (hi6 u) hk3).2⟩ (fun hHeld2 => ?_)
                    clear hK K hHeld
                    have hHeld := hHeld2
                    clear hHeld2 c0 c1 f0 XD KD KU
                    (try simp only [Act.put, List.getElem_toArray, List.getElem_cons_zero, List.getElem_cons_succ, List.setIfInBounds_toArray, List.set_cons_zero, List.set_cons_succ])
                    refine wpAnyH_take (i := 23) (v := .pointer (some ⟨gv, k * 2, none⟩)) rfl (by kernel_rfl) (by kernel_rfl) (by kernel_rfl) (fun _ _ _ h => h) (Or.inl ⟨by rfl, by intro w hSw; (try dsimp only at hSw); go_simp⟩) (by assumption) ?_
                    (try simp only [Act.put, List.getElem_toArray, List.getElem_cons_zero, List.getElem_cons_succ, List.setIfInBounds_toArray, List.set_cons_zero, List.set_cons_succ])
                    refine wpAnyH_take (i := 24) (v := .pointer (some ⟨gv, k * 2 + 1, none⟩)) rfl (by kernel_rfl) (by kernel_rfl) (by kernel_rfl) (fun _ _ _ h => h) (Or.inl ⟨by rfl, by intro w hSw; (try dsimp only at hSw); go_simp⟩) (by assumption) ?_
                    (try simp only [Act.put, List.getElem_toArray, List.getElem_cons_zero, List.getElem_cons_succ, List.setIfInBounds_toArray, List.set_cons_zero, List.set_cons_succ])
                    refine wpAnyH_ready (rs := [25]) (by kernel_rfl) (by simp) ?_
                    refine AllReadyH.cons rfl (fun K hK => ?_) AllReadyH.nil
                    have X3 := Lib.hid (X2.out.far (by omega) hgB hgv (k * 2 + 1) (.int .i64 (max (hi k + v) (hi6 u k))))
                    have K3 := Lib.hid (K2.out.put (k * 2 + 1) (.int .i64 (max (hi k + v) (hi6 u k))) (VH_hi _ _ hk3 _))
                    have KU : Hid (BlkV ((D.setCell ⟨gv, k * 2, none⟩ (.int .i64 (min (lo k - v) (lo6 u k)))).setCell ⟨gv, k * 2 + 1, none⟩ (.int .i64 (max (hi k + v) (hi6 u k)))) go 38 (VH (lo6 u) (hi6 u))) := X3.out.ko
                    have f0 := K2.out.frozen (k * 2 + 1)
                    have c1 := K2.out.at_ _ (VH_at _ _ hk3).2
                    go_simp
                    refine hK.out _ _ ⟨KU.out.at_ _ (VH_at (lo6 u) (hi6 u) hk3).1, KU.out.at_ _ (VH_at (lo6 u) (hi6 u) hk3).2⟩ (fun hHeld2 => ?_)
                    clear hK K hHeld
                    have hHeld := hHeld2
                    clear hHeld2 c1 f0 X2 K2 KU
                    (try simp only [Act.put, List.getElem_toArray, List.getElem_cons_zero, List.getElem_cons_succ, List.setIfInBounds_toArray, List.set_cons_zero, List.set_cons_succ])
                    refine wpAnyH_done (by kernel_rfl) ?_ _
                    gi_wp2
                    go_roundw
                    case rel =>
                      refine ⟨k + 1, _, _, by omega, by go_num, X3.out, K3.out, fun j hj => ?_⟩
                      have h1 := m1.out
                      have h2 := m2.out
                      rw [if_pos hn0] at h1 h2
                      have h3 := HL.out j hj
                      by_cases hjk : j = k
                      · subst hjk; rw [upI_at, upI_at, if_pos (Nat.lt_succ_self _), if_pos (Nat.lt_succ_self _)]; exact ⟨h1.symm, h2.symm⟩
                      · rw [upI_ne _ _ hjk, upI_ne _ _ hjk, upI_ne _ _ hjk, upI_ne _ _ hjk, h3.1, h3.2]
                        by_cases h4 : j < k
                        · rw [if_pos h4, if_pos h4, if_pos (by omega), if_pos (by omega)]; exact ⟨rfl, rfl⟩
                        · rw [if_neg h4, if_neg h4, if_neg (by omega), if_neg (by omega)]; exact ⟨rfl, rfl⟩
                    case measure => simp [intOf]; omega
                  · skip
                    go_simp
                    refine hK.out _ _ (hHeld) (fun hHeld2 => ?_)
                    clear hK K hHeld
                    have hHeld := hHeld2
                    clear hHeld2
                    (try simp only [Act.put, List.getElem_toArray, List.getElem_cons_zero, List.getElem_cons_succ, List.setIfInBounds_toArray, List.set_cons_zero, List.set_cons_succ])
                    refine wpAnyH_take (i := 19) (v := .int .i64 (max (hi k + v) (hi6 u k))) rfl (by kernel_rfl) (by kernel_rfl) (by kernel_rfl) (fun _ _ _ h => h) (Or.inl ⟨by rfl, by intro w hSw; (try dsimp only at hSw); go_simp⟩) (by assumption) ?_
                    (try simp only [Act.put, List.getElem_toArray, List.getElem_cons_zero, List.getElem_cons_succ, List.setIfInBounds_toArray, List.set_cons_zero, List.set_cons_succ])
                    refine wpAnyH_ready (rs := [5]) (by kernel_rfl) (by simp) ?_
                    refine AllReadyH.cons rfl (fun K hK => ?_) AllReadyH.nil
                    go_simp
                    refine hK.out _ _ (hHeld) (fun hHeld2 => ?_)
                    clear hK K hHeld
                    have hHeld := hHeld2
                    clear hHeld2
                    (try simp only [Act.put, List.getElem_toArray, List.getElem_cons_zero, List.getElem_cons_succ, List.setIfInBounds_toArray, List.set_cons_zero, List.set_cons_succ])
                    refine wpAnyH_take (i := 10) (v := .int .i64 (min (lo k - v) (lo6 u k))) rfl (by kernel_rfl) (by kernel_rfl) (by kernel_rfl) (fun _ _ _ h => h) (Or.inl ⟨by rfl, by intro w hSw; (try dsimp only at hSw); go_simp⟩) (by assumption) ?_
                    (try simp only [Act.put, List.getElem_toArray, List.getElem_cons_zero, List.getElem_cons_succ, List.setIfInBounds_toArray, List.set_cons_zero, List.set_cons_succ])
                    refine wpAnyH_take (i := 20) (v := .pointer (some ⟨gv, k * 2, none⟩)) rfl (by kernel_rfl) (by kernel_rfl) (by kernel_rfl) (fun _ _ _ h => h) (Or.inl ⟨by rfl, by intro w hSw; (try dsimp only at hSw); go_simp⟩) (by assumption) ?_
                    (try simp only [Act.put, List.getElem_toArray, List.getElem_cons_zero, List.getElem_cons_succ, List.setIfInBounds_toArray, List.set_cons_zero, List.set_cons_succ])
                    refine wpAnyH_take (i := 21) (v := .pointer (some ⟨gv, k * 2, none⟩)) rfl (by kernel_rfl) (by kernel_rfl) (by kernel_rfl) (fun _ _ _ h => h) (Or.inl ⟨by rfl, by intro w hSw; (try dsimp only at hSw); go_simp⟩) (by assumption) ?_
                    (try simp only [Act.put, List.getElem_toArray, List.getElem_cons_zero, List.getElem_cons_succ, List.setIfInBounds_toArray, List.set_cons_zero, List.set_cons_succ])
                    refine wpAnyH_ready (rs := [22]) (by kernel_rfl) (by simp) ?_
                    refine AllReadyH.cons rfl (fun K hK => ?_) AllReadyH.nil
                    have X2 := Lib.hid (XD.out.far (by omega) hgB hgv (k * 2) (.int .i64 (min (lo k - v) (lo6 u k))))
                    have K2 := Lib.hid (KD.out.put (k * 2) (.int .i64 (min (lo k - v) (lo6 u k))) (VH_lo _ _ hk3 _))
                    have KU : Hid (BlkV (D.setCell ⟨gv, k * 2, none⟩ (.int .i64 (min (lo k - v) (lo6 u k)))) go 38 (VH (lo6 u) (hi6 u))) := X2.out.ko
                    have f0 := KD.out.frozen (k * 2)
                    go_simp
                    refine hK.out _ _ ⟨KU.out.at_ _ (VH_at (lo6 u) (hi6 u) hk3).1, KU.out.at_ _ (VH_at (lo6 u) (hi6 u) hk3).2⟩ (fun hHeld2 => ?_)
                    clear hK K hHeld
                    have hHeld := hHeld2
                    clear hHeld2 c0 c1 f0 XD KD KU
                    (try simp only [Act.put, List.getElem_toArray, List.getElem_cons_zero, List.getElem_cons_succ, List.setIfInBounds_toArray, List.set_cons_zero, List.set_cons_succ])
                    refine wpAnyH_take (i := 23) (v := .pointer (some ⟨gv, k * 2, none⟩)) rfl (by kernel_rfl) (by kernel_rfl) (by kernel_rfl) (fun _ _ _ h => h) (Or.inl ⟨by rfl, by intro w hSw; (try dsimp only at hSw); go_simp⟩) (by assumption) ?_
                    (try simp only [Act.put, List.getElem_toArray, List.getElem_cons_zero, List.getElem_cons_succ, List.setIfInBounds_toArray, List.set_cons_zero, List.set_cons_succ])
                    refine wpAnyH_take (i := 24) (v := .pointer (some ⟨gv, k * 2 + 1, none⟩)) rfl (by kernel_rfl) (by kernel_rfl) (by kernel_rfl) (fun _ _ _ h => h) (Or.inl ⟨by rfl, by intro w hSw; (try dsimp only at hSw); go_simp⟩) (by assumption) ?_
                    (try simp only [Act.put, List.getElem_toArray, List.getElem_cons_zero, List.getElem_cons_succ, List.setIfInBounds_toArray, List.set_cons_zero, List.set_cons_succ])
                    refine wpAnyH_ready (rs := [25]) (by kernel_rfl) (by simp) ?_
                    refine AllReadyH.cons rfl (fun K hK => ?_) AllReadyH.nil
                    have X3 := Lib.hid (X2.out.far (by omega) hgB hgv (k * 2 + 1) (.int .i64 (max (hi k + v) (hi6 u k))))
                    have K3 := Lib.hid (K2.out.put (k * 2 + 1) (.int .i64 (max (hi k + v) (hi6 u k))) (VH_hi _ _ hk3 _))
                    have KU : Hid (BlkV ((D.setCell ⟨gv, k * 2, none⟩ (.int .i64 (min (lo k - v) (lo6 u k)))).setCell ⟨gv, k * 2 + 1, none⟩ (.int .i64 (max (hi k + v) (hi6 u k)))) go 38 (VH (lo6 u) (hi6 u))) := X3.out.ko
                    have f0 := K2.out.frozen (k * 2 + 1)
                    have c1 := K2.out.at_ _ (VH_at _ _ hk3).2
                    go_simp
                    refine hK.out _ _ ⟨KU.out.at_ _ (VH_at (lo6 u) (hi6 u) hk3).1, KU.out.at_ _ (VH_at (lo6 u) (hi6 u) hk3).2⟩ (fun hHeld2 => ?_)
                    clear hK K hHeld
                    have hHeld := hHeld2
                    clear hHeld2 c1 f0 X2 K2 KU
                    (try simp only [Act.put, List.getElem_toArray, List.getElem_cons_zero, List.getElem_cons_succ, List.setIfInBounds_toArray, List.set_cons_zero, List.set_cons_succ])
                    refine wpAnyH_done (by kernel_rfl) ?_ _
                    gi_wp2
                    go_roundw
                    case rel =>
                      refine ⟨k + 1, _, _, by omega, by go_num, X3.out, K3.out, fun j hj => ?_⟩
                      have h1 := m1.out
                      have h2 := m2.out
                      rw [if_pos hn0] at h1 h2
                      have h3 := HL.out j hj
                      by_cases hjk : j = k
                      · subst hjk; rw [upI_at, upI_at, if_pos (Nat.lt_succ_self _), if_pos (Nat.lt_succ_self _)]; exact ⟨h1.symm, h2.symm⟩
                      · rw [upI_ne _ _ hjk, upI_ne _ _ hjk, upI_ne _ _ hjk, upI_ne _ _ hjk, h3.1, h3.2]
                        by_cases h4 : j < k
                        · rw [if_pos h4, if_pos h4, if_pos (by omega), if_pos (by omega)]; exact ⟨rfl, rfl⟩
                        · rw [if_neg h4, if_neg h4, if_neg (by omega), if_neg (by omega)]; exact ⟨rfl, rfl⟩
                    case measure => simp [intOf]; omega
                · have tn : decide ((0 : Int) < (n : Int)) = false := decide_eq_false (by omega)
                  have tn' : decide (0 < n) = false := decide_eq_false hn0
                  gi_wp2
                  go_roundw
                  case rel =>
                    refine ⟨k + 1, _, _, by omega, by go_num, XA.out, KB.out, fun j hj => ?_⟩
                    have h1 := m1.out
                    have h2 := m2.out
                    rw [if_neg hn0] at h1 h2
                    have h3 := HL.out j hj
                    by_cases hjk : j = k
                    · subst hjk; rw [upI_at, upI_at, if_pos (Nat.lt_succ_self _), if_pos (Nat.lt_succ_self _)]; exact ⟨h1.symm, h2.symm⟩
                    · rw [upI_ne _ _ hjk, upI_ne _ _ hjk, h3.1, h3.2]
                      by_cases h4 : j < k
                      · rw [if_pos h4, if_pos h4, if_pos (by omega), if_pos (by omega)]; exact ⟨rfl, rfl⟩
                      · rw [if_neg h4, if_neg h4, if_neg (by omega), if_neg (by omega)]; exact ⟨rfl, rfl⟩
                  case measure => simp [intOf]; omega
              · obtain rfl : k = 3 := by omega
                have tk : decide (((3 : Nat) : Int) < 3) = false := rfl
                have KD : Hid (BlkV wr gv 38 #[.int .i64 d.l0, .int .i64 d.h0, .int .i64 d.l1, .int .i64 d.h1, .int .i64 d.l2, .int .i64 d.h2]) := by
                  have e := VH_cong (lo := lo) (hi := hi) (v := d) (fun j hj => by have := hL j hj; rw [if_pos hj, if_pos hj] at this; exact this)
                  have k := KV.out
                  rw [e] at k
                  exact k
                clear hL KV
                obtain ⟨z1, z2, z3, z4, z5⟩ := X3.out.fin (by omega) (by omega) hne d ((n : Int) + 1)
                have v0_ := KD.out.at_ 0 rfl
                have v1_ := KD.out.at_ 1 rfl
                have v2_ := KD.out.at_ 2 rfl
                have v3_ := KD.out.at_ 3 rfl
                have v4_ := KD.out.at_ 4 rfl
                have v5_ := KD.out.at_ 5 rfl
                have o0_ := X3.out.ko.at_ 0 rfl
                have o1_ := X3.out.ko.at_ 1 rfl
                have o2_ := X3.out.ko.at_ 2 rfl
                have o3_ := X3.out.ko.at_ 3 rfl
                have o4_ := X3.out.ko.at_ 4 rfl
                have o5_ := X3.out.ko.at_ 5 rfl
                have fo0 := X3.out.ko.frozen 0
                have fo1 := X3.out.ko.frozen 1
                have fo2 := X3.out.ko.frozen 2
                have fo3 := X3.out.ko.frozen 3
                have fo4 := X3.out.ko.frozen 4
                have fo5 := X3.out.ko.frozen 5
                have n0 := z1.at_ 0 rfl
                have fn0 := z1.frozen 0
                have wn : IntKind.i64.wrap ((n : Int) + 1) = (n : Int) + 1 := by rw [IntKind.wrap_i64]; have := hn.out; omega
                gi_wp2
                refine ⟨z2, z3, HKW.out.trans z3, ?_, ?_⟩
                · rw [List.map_append, List.map_cons, List.map_nil, ← hdd.out]; exact z4
                · rw [List.map_append, List.map_cons, List.map_nil, List.length_append, List.length_map, List.length_singleton, ← hn.out]; exact z5
          case done =>
            rintro D ys W hD hys hI hDf
            rw [show ys.map Subtype.val = y.ss.filter (inR f t) from hys] at hI
            replace E0 := E0.out
            obtain ⟨d, hd⟩ : ∃ d, d = ovV f t (y.ss.filter (inR f t)) := ⟨_, rfl⟩
            have KO2 := hI.ko
            rw [← hd] at KO2 E0
            replace KO2 := Lib.hid KO2
            have KR2 : Hid (BlkV W (w.heap.size + 1) 38 #[.int .i64 0, .int .i64 0, .int .i64 0, .int .i64 0, .int .i64 0, .int .i64 0]) := (hI.kp.kp.block (w.heap.size + 1) (by omega) (by omega) (by omega)).trans KR.out
            have HBW := Lib.hid (HB.out.trans hI.kp.hb)
            have lD : D < W.heap.size := (Array.getElem?_eq_some_iff.1 hDf).1
            replace hDf := Lib.hid hDf
            have lgD : w.heap.size ≤ D := by omega
            have lg1 : w.heap.size + 1 < D := by omega
            clear hI hys hd KO KN KR HB Q1 Q2 Q3 OB OS S
            have o0_ := KO2.out.at_ 0 rfl
            have o1_ := KO2.out.at_ 1 rfl
            have o2_ := KO2.out.at_ 2 rfl
            have o3_ := KO2.out.at_ 3 rfl
            have o4_ := KO2.out.at_ 4 rfl
            have o5_ := KO2.out.at_ 5 rfl
            gi_wp2
            show Code.wp _ _ _ _ _
            go_wp2_with fail
            refine (sphcheck_any d _).mono ?_
            rintro e w2 ⟨rfl, hb⟩
            dsimp only
            replace hDf := Lib.hid ((hb.block D lD).trans hDf.out)
            replace KO2 := Lib.hid (KO2.out.keep hb)
            replace KR2 := Lib.hid (KR2.out.keep hb)
            replace HBW := Lib.hid (below_mono HBW.out hb)
            clear hb o0_ o1_ o2_ o3_ o4_ o5_
            have r0 := KR2.out.at_ 0 rfl
            have r1 := KR2.out.at_ 1 rfl
            have r2 := KR2.out.at_ 2 rfl
            have r3 := KR2.out.at_ 3 rfl
            have r4 := KR2.out.at_ 4 rfl
            have r5 := KR2.out.at_ 5 rfl
            have fr0 := KR2.out.frozen 0
            have fr1 := KR2.out.frozen 1
            have fr2 := KR2.out.frozen 2
            have fr3 := KR2.out.frozen 3
            have fr4 := KR2.out.frozen 4
            have fr5 := KR2.out.frozen 5
            cases hcv : chkV d with
            | true =>
              have E := Lib.hid (E0.trans (if_pos hcv))
              have hc0 : ckV8 d = 0 := by unfold ckV8; rw [hcv]; rfl
              rw [hc0]
              clear E0 hc0
              have o0_ := KO2.out.at_ 0 rfl
              have o1_ := KO2.out.at_ 1 rfl
              have o2_ := KO2.out.at_ 2 rfl
              have o3_ := KO2.out.at_ 3 rfl
              have o4_ := KO2.out.at_ 4 rfl
              have o5_ := KO2.out.at_ 5 rfl
              go_wp2
              have HD := Lib.hid ((keeps6 w2 (w.heap.size + 1) (.int .i64 d.l0) (.int .i64 d.h0) (.int .i64 d.l1) (.int .i64 d.h1) (.int .i64 d.l2) (.int .i64 d.h2)).same D _ hDf.out rfl)
              refine ⟨by simp, .inl ⟨_, _, rfl, run_takeDeferred HD.out, ?_⟩⟩
              have hp := belowK_b (w := w) (Nat.le_refl _) ((((((w2.setCell ⟨w.heap.size + 1, 0, none⟩ (.int .i64 d.l0)).setCell ⟨w.heap.size + 1, 1, none⟩ (.int .i64 d.h0)).setCell ⟨w.heap.size + 1, 2, none⟩ (.int .i64 d.l1)).setCell ⟨w.heap.size + 1, 3, none⟩ (.int .i64 d.h1)).setCell ⟨w.heap.size + 1, 4, none⟩ (.int .i64 d.l2)).setCell ⟨w.heap.size + 1, 5, none⟩ (.int .i64 d.h2)) D _ (.deferred none) lgD HD.out rfl rfl
              have ksF := BlkV.putD (KR2.out.put6 (.int .i64 d.l0) (.int .i64 d.h0) (.int .i64 d.l1) (.int .i64 d.h1) (.int .i64 d.l2) (.int .i64 d.h2)) HD.out (.deferred none) rfl
              have kf0 := ksF.at_ 0 rfl
              have kf1 := ksF.at_ 1 rfl
              have kf2 := ksF.at_ 2 rfl
              have kf3 := ksF.at_ 3 rfl
              have kf4 := ksF.at_ 4 rfl
              have kf5 := ksF.at_ 5 rfl
              have hbF := below_mono' (below_set6 HBW.out (Nat.le_succ _) (.int .i64 d.l0) (.int .i64 d.h0) (.int .i64 d.l1) (.int .i64 d.h1) (.int .i64 d.l2) (.int .i64 d.h2)) hp
              clear hp ksF
              refine ⟨.tuple #[.agg #[.int .i64 d.l0, .int .i64 d.h0, .int .i64 d.l1, .int .i64 d.h1, .int .i64 d.l2, .int .i64 d.h2], .int .i64 0], ?_, by rw [E.out] <;> rfl, hbF⟩
              simp [results, Try.f12, go_sem, kf0, kf1, kf2, kf3, kf4, kf5]
            | false =>
              have E := Lib.hid (E0.trans (if_neg (by rw [hcv]; simp)))
              have hc0 : ckV8 d = 8 := by unfold ckV8; rw [hcv]; rfl
              rw [hc0]
              clear E0 hc0
              go_wp2
              have HD := Lib.hid ((keeps6 w2 (w.heap.size + 1) (.int .i64 0) (.int .i64 0) (.int .i64 0) (.int .i64 0) (.int .i64 0) (.int .i64 0)).same D _ hDf.out rfl)
              refine ⟨by simp, .inl ⟨_, _, rfl, run_takeDeferred HD.out, ?_⟩⟩
              have hp := belowK_b (w := w) (Nat.le_refl _) ((((((w2.setCell ⟨w.heap.size + 1, 0, none⟩ (.int .i64 0)).setCell ⟨w.heap.size + 1, 1, none⟩ (.int .i64 0)).setCell ⟨w.heap.size + 1, 2, none⟩ (.int .i64 0)).setCell ⟨w.heap.size + 1, 3, none⟩ (.int .i64 0)).setCell ⟨w.heap.size + 1, 4, none⟩ (.int .i64 0)).setCell ⟨w.heap.size + 1, 5, none⟩ (.int .i64 0)) D _ (.deferred none) lgD HD.out rfl rfl
              have ksF := BlkV.putD (KR2.out.put6 (.int .i64 0) (.int .i64 0) (.int .i64 0) (.int .i64 0) (.int .i64 0) (.int .i64 0)) HD.out (.deferred none) rfl
              have kf0 := ksF.at_ 0 rfl
              have kf1 := ksF.at_ 1 rfl
              have kf2 := ksF.at_ 2 rfl
              have kf3 := ksF.at_ 3 rfl
              have kf4 := ksF.at_ 4 rfl
              have kf5 := ksF.at_ 5 rfl
              have hbF := below_mono' (below_set6 HBW.out (Nat.le_succ _) (.int .i64 0) (.int .i64 0) (.int .i64 0) (.int .i64 0) (.int .i64 0) (.int .i64 0)) hp
              clear hp ksF
              refine ⟨.tuple #[.agg #[.int .i64 0, .int .i64 0, .int .i64 0, .int .i64 0, .int .i64 0, .int .i64 0], .int .i64 16], ?_, by rw [E.out] <;> rfl, hbF⟩
              simp [results, Try.f12, go_sem, kf0, kf1, kf2, kf3, kf4, kf5]
          case stop => (rintro D c pre W _ _ h _; exact h.elim)
  · have E := Lib.hid (ovE_bad (f := f) (t := t) h0)
    have E2 := Lib.hid (getV_err h0)
    go_enter Try.func12, Try.ntmps12
    go_wp2_with (fail)
    generalize hwz : (w.alloc (.cells #[.slice A bs.length c] 24)).alloc (.cells #[.int .i64 0, .int .i64 0, .int .i64 0, .int .i64 0, .int .i64 0, .int .i64 0] 38) = wz at *
    have KE : Hid (BlkV wz w.heap.size 24 #[.slice A bs.length c]) := by rw [← hwz]; exact (BlkV.fresh rfl _ _).alloc _
    have KR : Hid (BlkV wz (w.heap.size + 1) 38 #[.int .i64 0, .int .i64 0, .int .i64 0, .int .i64 0, .int .i64 0, .int .i64 0]) := by rw [← hwz]; exact BlkV.fresh (by simp) _ _
    have HB : Hid (Below w.heap.size w wz) := by rw [← hwz]; exact below_mono (blw1 _ _) (blw1 _ _)
    clear hwz
    refine (eget_any bs A c B i wz (S.out.below HB.out)).mono ?_
    rintro e w1 ⟨rfl, hb⟩
    replace KE := Lib.hid (KE.out.keep hb)
    replace KR := Lib.hid (KR.out.keep hb)
    replace HB := Lib.hid (below_mono HB.out hb)
    clear hb
    rw [E2.out]
    clear E2 S
    generalize hasE bs i = x at *
    have t0 : (x != 0) = true := bne_iff_ne.2 h0
    clear h0
    go_upto_region 2 with fail
    generalize hwx : w1.alloc (.cells #[.string ⟨zB.nm.toArray⟩, .int .i64 zB.gm, .int .i64 zB.rd, .slice zB.A zB.ss.length zB.c] 34) = wx at *
    have KY : Hid (BlkV wx w1.heap.size 34 #[.string ⟨zB.nm.toArray⟩, .int .i64 zB.gm, .int .i64 zB.rd, .slice zB.A zB.ss.length zB.c]) := by rw [← hwx]; exact BlkV.fresh rfl _ _
    replace KR : Hid (BlkV wx (w.heap.size + 1) 38 #[.int .i64 0, .int .i64 0, .int .i64 0, .int .i64 0, .int .i64 0, .int .i64 0]) := by rw [← hwx]; exact KR.out.alloc _
    replace HB : Hid (Below w.heap.size w wx) := by rw [← hwx]; exact below_mono HB.out (blw1 _ _)
    have hgy := HB.out.size
    skip
    clear hwx
    have r0 := KR.out.at_ 0 rfl
    have r1 := KR.out.at_ 1 rfl
    have r2 := KR.out.at_ 2 rfl
    have r3 := KR.out.at_ 3 rfl
    have r4 := KR.out.at_ 4 rfl
    have r5 := KR.out.at_ 5 rfl
    have fr0 := KR.out.frozen 0
    have fr1 := KR.out.frozen 1
    have fr2 := KR.out.frozen 2
    have fr3 := KR.out.frozen 3
    have fr4 := KR.out.frozen 4
    have fr5 := KR.out.frozen 5
    go_wp2
    exact bodyPost_ret (v := .tuple #[.agg #[.int .i64 0, .int .i64 0, .int .i64 0, .int .i64 0, .int .i64 0, .int .i64 0], .int .i64 x]) (by simp [results, Try.results12, go_sem, r0, r1, r2, r3, r4, r5]) rfl ⟨by rw [E.out] <;> rfl, below_set6 HB.out (Nat.le_succ _) _ _ _ _ _ _⟩

end Go.Proofs.Ytghallnooijfhaa

namespace Go.Proofs.Ytghallnooijfhaa
open Go.RowKit
attribute [local go_sem ↓] Go.wp_at_zero Go.wp_at_succ
theorem okV_of {v : V6} (h : chkV v = true) : OkV v := by
  unfold chkV chkI at h
  simp only [Bool.and_eq_true, decide_eq_true_eq] at h
  exact ⟨⟨h.1.1.1.1, h.1.1.1.2, h.1.1.2⟩, ⟨h.1.2.1.1, h.1.2.1.2, h.1.2.2⟩, ⟨h.2.1.1, h.2.1.2, h.2.2⟩⟩

theorem ovE_arg {bs : List BG} {k : Nat} {f t : Int} (hc : chkE bs = 0) (hk : k < bs.length) (h : t < f) : (ovE bs k f t).2 = 2 := by
  unfold ovE
  rw [if_pos hc, getB_some (by omega)]
  dsimp only
  rw [if_pos h]

/-- What EphemHolds asks of an answer of Over and a place. -/
structure HoldQ (v q : V6) (x : Int) : Prop where
  x0 : x = 0
  hs : Has v q
  ov : OkV v
  oq : OkV q
  d : q.h0 - q.l0 ≤ 1 ∧ q.h1 - q.l1 ≤ 1 ∧ q.h2 - q.l2 ≤ 1

theorem holdQ {bs : List BG} {i f t u : Int} (hg : grE bs = false) (h : (ovE bs i f t).2 = 0) (h1 : f ≤ u) (h2 : u ≤ t) : HoldQ (ovE bs i f t).1 (plE bs i u).1 (plE bs i u).2 := by
  obtain ⟨p, e1, e2, e3, e4, e5⟩ := ov_holds (v := (ovE bs i f t).1) hg (Prod.ext rfl h) h1 h2
  rw [e1]
  exact ⟨rfl, e2, okV_of e3, okV_of e5, e4⟩

set_option maxRecDepth 100000 in
set_option maxHeartbeats 8000000 in
theorem ephemHolds_walk (bs : List BG) (A : Option Addr) (c : Nat) (i f u t : Int) (W0 : World) (hs : SlB W0 W0.heap.size A bs c) :
    Calls Try.prog 4 #[.agg #[.slice A bs.length c], .int .i64 i, .int .i64 f, .int .i64 u, .int .i64 t] W0 fun e w' => e = .returned (.bool true) ∧ Below W0.heap.size W0 w' := by
  have hm := hs.len
  have S := Lib.hid hs
  clear hs
  have SW := Lib.hid (fun W (h : Below W0.heap.size W0 W) => S.out.below h)
  go_enter Try.func4, Try.ntmps4
  go_wp2_with fail
  generalize hw0 : W0.alloc (.cells #[.slice A bs.length c] 24) = w0 at *
  have B0 : Hid (Below W0.heap.size W0 w0) := by rw [← hw0]; exact blw1 _ _
  have K0 : Hid (BlkV w0 W0.heap.size 24 #[.slice A bs.length c]) := by rw [← hw0]; exact BlkV.fresh rfl _ _
  clear hw0
  refine (alive_any _).mono ?_
  rintro e w1 ⟨rfl, hb⟩
  have B1 := Lib.hid (below_mono B0.out hb)
  have K1 := Lib.hid (K0.out.keep hb)
  clear hb B0 K0
  have k0 := K1.out.at_ 0 rfl
  have hlk := K1.out.lt
  go_wp2_with fail
  refine (rgreat_any bs A c _ w1 (SW.out _ B1.out)).mono ?_
  rintro e w2 ⟨rfl, hb⟩
  have B2 := Lib.hid (below_mono B1.out hb)
  have K2 := Lib.hid (K1.out.keep hb)
  clear hb B1 K1 k0 hlk
  have k0 := K2.out.at_ 0 rfl
  have hlk := K2.out.lt
  cases hg : grE bs with
  | true =>
    go_wp2
    go_ret
    exact ⟨rfl, B2.out⟩
  | false =>
    have HG := Lib.hid hg
    clear hg
    go_wp2_with fail
    refine (recheck_any bs A c _ w2 (SW.out _ B2.out)).mono ?_
    rintro e w3 ⟨rfl, hb⟩
    have B3 := Lib.hid (below_mono B2.out hb)
    have K3 := Lib.hid (K2.out.keep hb)
    clear hb B2 K2 k0 hlk
    have k0 := K3.out.at_ 0 rfl
    have hlk := K3.out.lt
    by_cases hc : chkE bs = 0
    · rw [hc]
      have HC := Lib.hid hc
      clear hc
      by_cases h1 : i < 0
      · have t1 : decide (i < 0) = true := decide_eq_true h1
        go_wp2
        go_ret
        exact ⟨rfl, B3.out⟩
      · have t1 : decide (i < 0) = false := decide_eq_false h1
        by_cases h2 : (bs.length : Int) ≤ i
        · have t2 : decide ((bs.length : Int) ≤ i) = true := decide_eq_true h2
          go_wp2
          go_ret
          exact ⟨rfl, B3.out⟩
        · have t2 : decide ((bs.length : Int) ≤ i) = false := decide_eq_false h2
          obtain ⟨k, rfl⟩ : ∃ k : Nat, i = k := ⟨i.toNat, by omega⟩
          have hk : k < bs.length := by omega
          have t2n : decide (bs.length ≤ k) = false := decide_eq_false (by omega)
          have HQ : Hid ((ovE bs k f t).2 = 0 → f ≤ u → u ≤ t → HoldQ (ovE bs k f t).1 (plE bs k u).1 (plE bs k u).2) := fun a b c => holdQ HG.out a b c
          have HA : Hid (t < f → (ovE bs k f t).2 = 2) := ovE_arg HC.out hk
          have CO := Lib.hid (fun V (h : Below W0.heap.size W0 V) => eover_any bs A c W0.heap.size k f t V (SW.out V h) HG.out)
          have CP := Lib.hid (fun V (h : Below W0.heap.size W0 V) => ePlace_any bs A c W0.heap.size k u V (SW.out V h) HG.out)
          obtain ⟨v, e, hR⟩ : ∃ v e, ovE bs k f t = (v, e) := ⟨_, _, rfl⟩
          obtain ⟨q, x, hX⟩ : ∃ q x, plE bs k u = (q, x) := ⟨_, _, rfl⟩
          rw [hR] at HQ HA CO
          rw [hX] at HQ CP
          dsimp only at HQ HA CO CP
          clear hR hX HC HG S SW h1 h2 hk
          go_wp2_with fail
          refine (CO.out _ B3.out).mono ?_
          rintro e' w4 ⟨rfl, hb⟩
          dsimp only
          replace K3 := Lib.hid (K3.out.keep hb)
          replace B3 := Lib.hid (below_mono B3.out hb)
          clear hb k0 hlk CO
          go_upto_region 5 with fail
          generalize hwx : w4.alloc (.cells #[.int .i64 v.l0, .int .i64 v.h0, .int .i64 v.l1, .int .i64 v.h1, .int .i64 v.l2, .int .i64 v.h2] 38) = wx at *
          have hbx : Below w4.heap.size w4 wx := by rw [← hwx]; exact blw1 _ _
          have KA : Hid (BlkV wx w4.heap.size 38 #[.int .i64 v.l0, .int .i64 v.h0, .int .i64 v.l1, .int .i64 v.h1, .int .i64 v.l2, .int .i64 v.h2]) := by rw [← hwx]; exact BlkV.fresh rfl _ _
          replace K3 := Lib.hid (K3.out.keep hbx)
          replace B3 := Lib.hid (below_mono B3.out hbx)
          clear hwx hbx
          generalize w4.heap.size = ga at *
          have k0 := K3.out.at_ 0 rfl
          have hlk := K3.out.lt
          go_wp2_with fail
          refine (CP.out _ B3.out).mono ?_
          rintro e' w5 ⟨rfl, hb⟩
          dsimp only
          replace KA := Lib.hid (KA.out.keep hb)
          replace B3 := Lib.hid (below_mono B3.out hb)
          clear hb k0 hlk CP K3
          go_upto_region 6 with fail
          generalize hwx : w5.alloc (.cells #[.int .i64 q.l0, .int .i64 q.h0, .int .i64 q.l1, .int .i64 q.h1, .int .i64 q.l2, .int .i64 q.h2] 38) = wy at *
          have hbx : Below w5.heap.size w5 wy := by rw [← hwx]; exact blw1 _ _
          have KB : Hid (BlkV wy w5.heap.size 38 #[.int .i64 q.l0, .int .i64 q.h0, .int .i64 q.l1, .int .i64 q.h1, .int .i64 q.l2, .int .i64 q.h2]) := by rw [← hwx]; exact BlkV.fresh rfl _ _
          replace KA := Lib.hid (KA.out.keep hbx)
          replace B3 := Lib.hid (below_mono B3.out hbx)
          clear hwx hbx
          generalize w5.heap.size = gb at *
          by_cases he : e = 0
          · subst he
            by_cases a1 : u < f
            · have ta : decide (u < f) = true := decide_eq_true a1
              go_wp2
              go_ret
              exact ⟨rfl, B3.out⟩
            · have ta : decide (u < f) = false := decide_eq_false a1
              by_cases a2 : t < u
              · have tb : decide (t < u) = true := decide_eq_true a2
                go_wp2
                go_ret
                exact ⟨rfl, B3.out⟩
              · have tb : decide (t < u) = false := decide_eq_false a2
                obtain ⟨rfl, hHas, hov, hoq, hd⟩ := HQ.out rfl (by omega) (by omega)
                have HS := Lib.hid hHas
                have OKP := Lib.hid hov
                have OKQ := Lib.hid hoq
                have HD := Lib.hid hd
                clear hHas hov hoq hd HQ HA a1 a2
                have c0 := KA.out.at_ 0 rfl
                have c1 := KA.out.at_ 1 rfl
                have c2 := KA.out.at_ 2 rfl
                have c3 := KA.out.at_ 3 rfl
                have c4 := KA.out.at_ 4 rfl
                have c5 := KA.out.at_ 5 rfl
                have d0 := KB.out.at_ 0 rfl
                have d1 := KB.out.at_ 1 rfl
                have d2 := KB.out.at_ 2 rfl
                have d3 := KB.out.at_ 3 rfl
                have d4 := KB.out.at_ 4 rfl
                have d5 := KB.out.at_ 5 rfl
                have la := KA.out.lt
                have lb := KB.out.lt
                go_wp2_with fail
                refine (r17check_ok v OKP.out _).mono ?_
                rintro e' w7 ⟨rfl, hb⟩
                dsimp only
                replace KA := Lib.hid (KA.out.keep hb)
                replace KB := Lib.hid (KB.out.keep hb)
                replace B3 := Lib.hid (below_mono B3.out hb)
                clear hb la lb c0 d0 c1 d1 c2 d2 c3 d3 c4 d4 c5 d5
                have d0 := KB.out.at_ 0 rfl
                have d1 := KB.out.at_ 1 rfl
                have d2 := KB.out.at_ 2 rfl
                have d3 := KB.out.at_ 3 rfl
                have d4 := KB.out.at_ 4 rfl
                have d5 := KB.out.at_ 5 rfl
                go_wp2_with fail
                refine (r17check_ok q OKQ.out _).mono ?_
                rintro e' w8 ⟨rfl, hb⟩
                dsimp only
                replace KA := Lib.hid (KA.out.keep hb)
                replace KB := Lib.hid (KB.out.keep hb)
                replace B3 := Lib.hid (below_mono B3.out hb)
                clear hb d0 d1 d2 d3 d4 d5
                go_wp2
                go_loopw [16] (fun s16 wr => ∃ i : Nat, i ≤ 3 ∧ s16 = .int .i64 i ∧ Below w8.heap.size w8 wr) (fun v _ => 3 - (intOf v).toNat)
                case atStart => exact ⟨0, by omega, rfl, Below.refl _ _⟩
                case round =>
                  obtain ⟨i, hi, rfl, hbr⟩ := hrel
                  by_cases hi3 : i < 3
                  · have ti : decide ((i : Int) < 3) = true := decide_eq_true (by omega)
                    have KA2 := Lib.hid (KA.out.keep hbr)
                    have KB2 := Lib.hid (KB.out.keep hbr)
                    have BR := Lib.hid hbr
                    clear hbr
                    obtain ⟨al, ah, bl, bh, cp0, cp1, cq0, cq1, m1, m2, m3, m4⟩ : ∃ al ah bl bh : Int, wr.cell? ⟨ga, i * 2, none⟩ = some (.int .i64 al) ∧ wr.cell? ⟨ga, i * 2 + 1, none⟩ = some (.int .i64 ah) ∧ wr.cell? ⟨gb, i * 2, none⟩ = some (.int .i64 bl) ∧ wr.cell? ⟨gb, i * 2 + 1, none⟩ = some (.int .i64 bh) ∧ al ≤ bl ∧ bh ≤ ah ∧ bh - bl ≤ 1 ∧ OkI bl bh := by
                      have hk' : i = 0 ∨ i = 1 ∨ i = 2 := by omega
                      rcases hk' with rfl | rfl | rfl
                      · exact ⟨_, _, _, _, KA2.out.at_ 0 rfl, KA2.out.at_ 1 rfl, KB2.out.at_ 0 rfl, KB2.out.at_ 1 rfl, HS.out.a.1, HS.out.a.2, HD.out.1, OKQ.out.a⟩
                      · exact ⟨_, _, _, _, KA2.out.at_ 2 rfl, KA2.out.at_ 3 rfl, KB2.out.at_ 2 rfl, KB2.out.at_ 3 rfl, HS.out.b.1, HS.out.b.2, HD.out.2.1, OKQ.out.b⟩
                      · exact ⟨_, _, _, _, KA2.out.at_ 4 rfl, KA2.out.at_ 5 rfl, KB2.out.at_ 4 rfl, KB2.out.at_ 5 rfl, HS.out.c.1, HS.out.c.2, HD.out.2.2, OKQ.out.c⟩
                    obtain ⟨o1, o2, o3⟩ := m4
                    have tl : decide (bl < al) = false := decide_eq_false (by omega)
                    have th : decide (ah < bh) = false := decide_eq_false (by omega)
                    have td : decide (1 < bh - bl) = false := decide_eq_false (by omega)
                    have r1 : IntKind.i64.wrap (bh - bl) = bh - bl := by rw [IntKind.wrap_i64]; omega
                    clear m1 m2 m3 o1 o2 o3
                    go_upto_region 15 with fail
                    have JS : Hid (∀ X, Below wr.heap.size wr X → X.cell? ⟨ga, i * 2, none⟩ = some (.int .i64 al) ∧ X.cell? ⟨ga, i * 2 + 1, none⟩ = some (.int .i64 ah) ∧ X.cell? ⟨gb, i * 2, none⟩ = some (.int .i64 bl) ∧ X.cell? ⟨gb, i * 2 + 1, none⟩ = some (.int .i64 bh)) := fun X h => ⟨kept_cell h cp0, kept_cell h cp1, kept_cell h cq0, kept_cell h cq1⟩
                    have Y0 : Hid (Below wr.heap.size wr wr.drew) := (Below.refl _ _).drew
                    have i3 : (i : Int) < 3 := by omega
                    have i0 : (0 : Int) ≤ (i : Int) := by omega
                    clear cp0 cp1 cq0 cq1
                    refine wp_region_held_drew (S := fun w' => w'.cell? ⟨ga, i * 2, none⟩ = some (.int .i64 al) ∧ w'.cell? ⟨ga, i * 2 + 1, none⟩ = some (.int .i64 ah) ∧ w'.cell? ⟨gb, i * 2, none⟩ = some (.int .i64 bl) ∧ w'.cell? ⟨gb, i * 2 + 1, none⟩ = some (.int .i64 bh)) (by kernel_rfl) (JS.out _ Y0.out) (fun hHeld => ?_)
                    refine wpAnyH_take (i := 0) (v := .int .i64 i) rfl (by kernel_rfl) (by kernel_rfl) (by kernel_rfl) (fun _ _ _ h => h) (Or.inl ⟨by rfl, by intro w hSw; (try dsimp only at hSw); go_simp⟩) (by assumption) ?_
                    (try simp only [Act.put, List.getElem_toArray, List.getElem_cons_zero, List.setIfInBounds_toArray, List.set_cons_zero, List.set_cons_succ])
                    refine wpAnyH_take (i := 1) (v := .pointer (some ⟨gb, i * 2, none⟩)) rfl (by kernel_rfl) (by kernel_rfl) (by kernel_rfl) (fun _ _ _ h => h) (Or.inl ⟨by rfl, by intro w hSw; (try dsimp only at hSw); go_simp⟩) (by assumption) ?_
                    (try simp only [Act.put, List.getElem_toArray, List.getElem_cons_zero, List.getElem_cons_succ, List.setIfInBounds_toArray, List.set_cons_zero, List.set_cons_succ])
                    refine wpAnyH_take (i := 2) (v := .pointer (some ⟨gb, i * 2, none⟩)) rfl (by kernel_rfl) (by kernel_rfl) (by kernel_rfl) (fun _ _ _ h => h) (Or.inl ⟨by rfl, by intro w hSw; (try dsimp only at hSw); go_simp⟩) (by assumption) ?_
                    (try simp only [Act.put, List.getElem_toArray, List.getElem_cons_zero, List.getElem_cons_succ, List.setIfInBounds_toArray, List.set_cons_zero, List.set_cons_succ])
                    refine wpAnyH_take (i := 3) (v := .int .i64 bl) rfl (by kernel_rfl) (by kernel_rfl) (by kernel_rfl) (fun _ _ _ h => h) (Or.inl ⟨by rfl, by intro w hSw; (try dsimp only at hSw); go_simp⟩) (by assumption) ?_
                    (try simp only [Act.put, List.getElem_toArray, List.getElem_cons_zero, List.getElem_cons_succ, List.setIfInBounds_toArray, List.set_cons_zero, List.set_cons_succ])
                    refine wpAnyH_take (i := 4) (v := .int .i64 i) rfl (by kernel_rfl) (by kernel_rfl) (by kernel_rfl) (fun _ _ _ h => h) (Or.inl ⟨by rfl, by intro w hSw; (try dsimp only at hSw); go_simp⟩) (by assumption) ?_
                    (try simp only [Act.put, List.getElem_toArray, List.getElem_cons_zero, List.getElem_cons_succ, List.setIfInBounds_toArray, List.set_cons_zero, List.set_cons_succ])
                    refine wpAnyH_take (i := 5) (v := .pointer (some ⟨ga, i * 2, none⟩)) rfl (by kernel_rfl) (by kernel_rfl) (by kernel_rfl) (fun _ _ _ h => h) (Or.inl ⟨by rfl, by intro w hSw; (try dsimp only at hSw); go_simp⟩) (by assumption) ?_
                    (try simp only [Act.put, List.getElem_toArray, List.getElem_cons_zero, List.getElem_cons_succ, List.setIfInBounds_toArray, List.set_cons_zero, List.set_cons_succ])
                    refine wpAnyH_take (i := 6) (v := .pointer (some ⟨ga, i * 2, none⟩)) rfl (by kernel_rfl) (by kernel_rfl) (by kernel_rfl) (fun _ _ _ h => h) (Or.inl ⟨by rfl, by intro w hSw; (try dsimp only at hSw); go_simp⟩) (by assumption) ?_
                    (try simp only [Act.put, List.getElem_toArray, List.getElem_cons_zero, List.getElem_cons_succ, List.setIfInBounds_toArray, List.set_cons_zero, List.set_cons_succ])
                    refine wpAnyH_take (i := 7) (v := .int .i64 al) rfl (by kernel_rfl) (by kernel_rfl) (by kernel_rfl) (fun _ _ _ h => h) (Or.inl ⟨by rfl, by intro w hSw; (try dsimp only at hSw); go_simp⟩) (by assumption) ?_
                    (try simp only [Act.put, List.getElem_toArray, List.getElem_cons_zero, List.getElem_cons_succ, List.setIfInBounds_toArray, List.set_cons_zero, List.set_cons_succ])
                    refine wpAnyH_take (i := 8) (v := .bool false) rfl (by kernel_rfl) (by kernel_rfl) (by kernel_rfl) (fun _ _ _ h => h) (Or.inl ⟨by rfl, by intro w hSw; (try dsimp only at hSw); go_simp⟩) (by assumption) ?_
                    (try simp only [Act.put, List.getElem_toArray, List.getElem_cons_zero, List.getElem_cons_succ, List.setIfInBounds_toArray, List.set_cons_zero, List.set_cons_succ])
                    refine wpAnyH_take (i := 9) (v := .bool false) rfl (by kernel_rfl) (by kernel_rfl) (by kernel_rfl) (fun _ _ _ h => h) (Or.inl ⟨by rfl, by intro w hSw; (try dsimp only at hSw); go_simp⟩) (by assumption) ?_
                    (try simp only [Act.put, List.getElem_toArray, List.getElem_cons_zero, List.getElem_cons_succ, List.setIfInBounds_toArray, List.set_cons_zero, List.set_cons_succ])
                    refine wpAnyH_take (i := 10) (v := .int .i64 i) rfl (by kernel_rfl) (by kernel_rfl) (by kernel_rfl) (fun _ _ _ h => h) (Or.inl ⟨by rfl, by intro w hSw; (try dsimp only at hSw); go_simp⟩) (by assumption) ?_
                    (try simp only [Act.put, List.getElem_toArray, List.getElem_cons_zero, List.getElem_cons_succ, List.setIfInBounds_toArray, List.set_cons_zero, List.set_cons_succ])
                    refine wpAnyH_take (i := 11) (v := .pointer (some ⟨gb, i * 2, none⟩)) rfl (by kernel_rfl) (by kernel_rfl) (by kernel_rfl) (fun _ _ _ h => h) (Or.inl ⟨by rfl, by intro w hSw; (try dsimp only at hSw); go_simp⟩) (by assumption) ?_
                    (try simp only [Act.put, List.getElem_toArray, List.getElem_cons_zero, List.getElem_cons_succ, List.setIfInBounds_toArray, List.set_cons_zero, List.set_cons_succ])
                    refine wpAnyH_take (i := 12) (v := .pointer (some ⟨gb, i * 2 + 1, none⟩)) rfl (by kernel_rfl) (by kernel_rfl) (by kernel_rfl) (fun _ _ _ h => h) (Or.inl ⟨by rfl, by intro w hSw; (try dsimp only at hSw); go_simp⟩) (by assumption) ?_
                    (try simp only [Act.put, List.getElem_toArray, List.getElem_cons_zero, List.getElem_cons_succ, List.setIfInBounds_toArray, List.set_cons_zero, List.set_cons_succ])
                    refine wpAnyH_take (i := 13) (v := .int .i64 bh) rfl (by kernel_rfl) (by kernel_rfl) (by kernel_rfl) (fun _ _ _ h => h) (Or.inl ⟨by rfl, by intro w hSw; (try dsimp only at hSw); go_simp⟩) (by assumption) ?_
                    (try simp only [Act.put, List.getElem_toArray, List.getElem_cons_zero, List.getElem_cons_succ, List.setIfInBounds_toArray, List.set_cons_zero, List.set_cons_succ])
                    refine wpAnyH_take (i := 14) (v := .int .i64 i) rfl (by kernel_rfl) (by kernel_rfl) (by kernel_rfl) (fun _ _ _ h => h) (Or.inl ⟨by rfl, by intro w hSw; (try dsimp only at hSw); go_simp⟩) (by assumption) ?_
                    (try simp only [Act.put, List.getElem_toArray, List.getElem_cons_zero, List.getElem_cons_succ, List.setIfInBounds_toArray, List.set_cons_zero, List.set_cons_succ])
                    refine wpAnyH_take (i := 15) (v := .pointer (some ⟨ga, i * 2, none⟩)) rfl (by kernel_rfl) (by kernel_rfl) (by kernel_rfl) (fun _ _ _ h => h) (Or.inl ⟨by rfl, by intro w hSw; (try dsimp only at hSw); go_simp⟩) (by assumption) ?_
                    (try simp only [Act.put, List.getElem_toArray, List.getElem_cons_zero, List.getElem_cons_succ, List.setIfInBounds_toArray, List.set_cons_zero, List.set_cons_succ])
                    refine wpAnyH_take (i := 16) (v := .pointer (some ⟨ga, i * 2 + 1, none⟩)) rfl (by kernel_rfl) (by kernel_rfl) (by kernel_rfl) (fun _ _ _ h => h) (Or.inl ⟨by rfl, by intro w hSw; (try dsimp only at hSw); go_simp⟩) (by assumption) ?_
                    (try simp only [Act.put, List.getElem_toArray, List.getElem_cons_zero, List.getElem_cons_succ, List.setIfInBounds_toArray, List.set_cons_zero, List.set_cons_succ])
                    refine wpAnyH_take (i := 17) (v := .int .i64 ah) rfl (by kernel_rfl) (by kernel_rfl) (by kernel_rfl) (fun _ _ _ h => h) (Or.inl ⟨by rfl, by intro w hSw; (try dsimp only at hSw); go_simp⟩) (by assumption) ?_
                    (try simp only [Act.put, List.getElem_toArray, List.getElem_cons_zero, List.getElem_cons_succ, List.setIfInBounds_toArray, List.set_cons_zero, List.set_cons_succ])
                    refine wpAnyH_take (i := 18) (v := .bool false) rfl (by kernel_rfl) (by kernel_rfl) (by kernel_rfl) (fun _ _ _ h => h) (Or.inl ⟨by rfl, by intro w hSw; (try dsimp only at hSw); go_simp⟩) (by assumption) ?_
                    (try simp only [Act.put, List.getElem_toArray, List.getElem_cons_zero, List.getElem_cons_succ, List.setIfInBounds_toArray, List.set_cons_zero, List.set_cons_succ])
                    refine wpAnyH_take (i := 19) (v := .bool false) rfl (by kernel_rfl) (by kernel_rfl) (by kernel_rfl) (fun _ _ _ h => h) (Or.inl ⟨by rfl, by intro w hSw; (try dsimp only at hSw); go_simp⟩) (by assumption) ?_
                    (try simp only [Act.put, List.getElem_toArray, List.getElem_cons_zero, List.getElem_cons_succ, List.setIfInBounds_toArray, List.set_cons_zero, List.set_cons_succ])
                    refine wpAnyH_take (i := 20) (v := .bool false) rfl (by kernel_rfl) (by kernel_rfl) (by kernel_rfl) (fun _ _ _ h => h) (Or.inl ⟨by rfl, by intro w hSw; (try dsimp only at hSw); go_simp⟩) (by assumption) ?_
                    (try simp only [Act.put, List.getElem_toArray, List.getElem_cons_zero, List.getElem_cons_succ, List.setIfInBounds_toArray, List.set_cons_zero, List.set_cons_succ])
                    refine wpAnyH_take (i := 21) (v := .int .i64 i) rfl (by kernel_rfl) (by kernel_rfl) (by kernel_rfl) (fun _ _ _ h => h) (Or.inl ⟨by rfl, by intro w hSw; (try dsimp only at hSw); go_simp⟩) (by assumption) ?_
                    (try simp only [Act.put, List.getElem_toArray, List.getElem_cons_zero, List.getElem_cons_succ, List.setIfInBounds_toArray, List.set_cons_zero, List.set_cons_succ])
                    refine wpAnyH_take (i := 22) (v := .pointer (some ⟨gb, i * 2, none⟩)) rfl (by kernel_rfl) (by kernel_rfl) (by kernel_rfl) (fun _ _ _ h => h) (Or.inl ⟨by rfl, by intro w hSw; (try dsimp only at hSw); go_simp⟩) (by assumption) ?_
                    (try simp only [Act.put, List.getElem_toArray, List.getElem_cons_zero, List.getElem_cons_succ, List.setIfInBounds_toArray, List.set_cons_zero, List.set_cons_succ])
                    refine wpAnyH_take (i := 23) (v := .pointer (some ⟨gb, i * 2 + 1, none⟩)) rfl (by kernel_rfl) (by kernel_rfl) (by kernel_rfl) (fun _ _ _ h => h) (Or.inl ⟨by rfl, by intro w hSw; (try dsimp only at hSw); go_simp⟩) (by assumption) ?_
                    (try simp only [Act.put, List.getElem_toArray, List.getElem_cons_zero, List.getElem_cons_succ, List.setIfInBounds_toArray, List.set_cons_zero, List.set_cons_succ])
                    refine wpAnyH_take (i := 24) (v := .int .i64 bh) rfl (by kernel_rfl) (by kernel_rfl) (by kernel_rfl) (fun _ _ _ h => h) (Or.inl ⟨by rfl, by intro w hSw; (try dsimp only at hSw); go_simp⟩) (by assumption) ?_
                    (try simp only [Act.put, List.getElem_toArray, List.getElem_cons_zero, List.getElem_cons_succ, List.setIfInBounds_toArray, List.set_cons_zero, List.set_cons_succ])
                    refine wpAnyH_take (i := 25) (v := .int .i64 i) rfl (by kernel_rfl) (by kernel_rfl) (by kernel_rfl) (fun _ _ _ h => h) (Or.inl ⟨by rfl, by intro w hSw; (try dsimp only at hSw); go_simp⟩) (by assumption) ?_
                    (try simp only [Act.put, List.getElem_toArray, List.getElem_cons_zero, List.getElem_cons_succ, List.setIfInBounds_toArray, List.set_cons_zero, List.set_cons_succ])
                    refine wpAnyH_take (i := 26) (v := .pointer (some ⟨gb, i * 2, none⟩)) rfl (by kernel_rfl) (by kernel_rfl) (by kernel_rfl) (fun _ _ _ h => h) (Or.inl ⟨by rfl, by intro w hSw; (try dsimp only at hSw); go_simp⟩) (by assumption) ?_
                    (try simp only [Act.put, List.getElem_toArray, List.getElem_cons_zero, List.getElem_cons_succ, List.setIfInBounds_toArray, List.set_cons_zero, List.set_cons_succ])
                    refine wpAnyH_take (i := 27) (v := .pointer (some ⟨gb, i * 2, none⟩)) rfl (by kernel_rfl) (by kernel_rfl) (by kernel_rfl) (fun _ _ _ h => h) (Or.inl ⟨by rfl, by intro w hSw; (try dsimp only at hSw); go_simp⟩) (by assumption) ?_
                    (try simp only [Act.put, List.getElem_toArray, List.getElem_cons_zero, List.getElem_cons_succ, List.setIfInBounds_toArray, List.set_cons_zero, List.set_cons_succ])
                    refine wpAnyH_take (i := 28) (v := .int .i64 bl) rfl (by kernel_rfl) (by kernel_rfl) (by kernel_rfl) (fun _ _ _ h => h) (Or.inl ⟨by rfl, by intro w hSw; (try dsimp only at hSw); go_simp⟩) (by assumption) ?_
                    (try simp only [Act.put, List.getElem_toArray, List.getElem_cons_zero, List.getElem_cons_succ, List.setIfInBounds_toArray, List.set_cons_zero, List.set_cons_succ])
                    refine wpAnyH_take (i := 29) (v := .int .i64 (bh - bl)) rfl (by kernel_rfl) (by kernel_rfl) (by kernel_rfl) (fun _ _ _ h => h) (Or.inl ⟨by rfl, by intro w hSw; (try dsimp only at hSw); go_simp⟩) (by assumption) ?_
                    (try simp only [Act.put, List.getElem_toArray, List.getElem_cons_zero, List.getElem_cons_succ, List.setIfInBounds_toArray, List.set_cons_zero, List.set_cons_succ])
                    refine wpAnyH_take (i := 30) (v := .bool false) rfl (by kernel_rfl) (by kernel_rfl) (by kernel_rfl) (fun _ _ _ h => h) (Or.inl ⟨by rfl, by intro w hSw; (try dsimp only at hSw); go_simp⟩) (by assumption) ?_
                    (try simp only [Act.put, List.getElem_toArray, List.getElem_cons_zero, List.getElem_cons_succ, List.setIfInBounds_toArray, List.set_cons_zero, List.set_cons_succ])
                    refine wpAnyH_take (i := 31) (v := .bool false) rfl (by kernel_rfl) (by kernel_rfl) (by kernel_rfl) (fun _ _ _ h => h) (Or.inl ⟨by rfl, by intro w hSw; (try dsimp only at hSw); go_simp⟩) (by assumption) ?_
                    (try simp only [Act.put, List.getElem_toArray, List.getElem_cons_zero, List.getElem_cons_succ, List.setIfInBounds_toArray, List.set_cons_zero, List.set_cons_succ])
                    refine wpAnyH_done (by kernel_rfl) ?_ _
                    have BR2 := Lib.hid (below_mono BR.out Y0.out)
                    clear JS Y0 hHeld
                    go_wp2
                    go_roundw
                    case rel => exact ⟨i + 1, by omega, by go_num, BR2.out⟩
                    case measure => simp [intOf]; omega
                  · obtain rfl : i = 3 := by omega
                    have ti : decide (((3 : Nat) : Int) < 3) = false := rfl
                    have BF := below_mono B3.out hbr
                    go_wp2
                    go_ret
                    exact ⟨rfl, BF⟩
          · have te : (e != 0) = true := bne_iff_ne.2 he
            by_cases hft : f ≤ t
            · have tf : decide (f ≤ t) = true := decide_eq_true hft
              go_wp2
              go_ret
              exact ⟨rfl, B3.out⟩
            · have tf : decide (f ≤ t) = false := decide_eq_false hft
              obtain rfl : e = 2 := HA.out (by omega)
              go_wp2
              go_ret
              exact ⟨rfl, B3.out⟩
    · generalize chkE bs = x at *
      have t0 : (x != 0) = true := bne_iff_ne.2 hc
      clear hc HG
      go_wp2
      go_ret
      exact ⟨rfl, B3.out⟩

end Go.Proofs.Ytghallnooijfhaa

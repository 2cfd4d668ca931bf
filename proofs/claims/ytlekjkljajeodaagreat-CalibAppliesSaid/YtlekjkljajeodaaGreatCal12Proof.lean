/- CalibApplies answers true for every input and leaves its arguments as they were. No condition beyond the row's own. -/
import Derived.Test.YtlekjkljajeodaaGreatCalRow
import Derived.Test.YtlekjkljajeodaaGreatCal12
namespace Go.Proofs.YtlekjkljajeodaaGreat
open Go.ChangeShapes Go.WideShapes Go.ChangeAt Go.RowKit
set_option maxRecDepth 100000 in
theorem calibApplies_lifted (os : Os) (started : os.Started) (H : Type) (enc : TypeId × Value → H) :
    ReturnsInHanded {} Tryz.checked os 3 .any (Rows.calibAppliesSpec.pre6 enc Tryz.prog Tryz.f3 Rows.calibAppliesRow.domain false) (Rows.calibAppliesSpec.post enc Tryz.prog Tryz.f3 false true false false) := by
  refine returnsInHanded_of_change_sized (C := Tryz.checked) Tryz.own started (by kernel_rfl) Tryz.func3
    (ChangeSpec.witness6 (enc := enc) (C := Tryz.checked) false ⟨#[], #[.agg #[.int .i64 0, .int .i64 0, .slice none 0 0], .agg #[.int .i64 0, .int .i64 0, .slice none 0 0], .agg #[.int .i64 0, .int .i64 0, .slice none 0 0], .agg #[.int .i64 0, .int .i64 0, .slice none 0 0], .int .i64 0, .int .i64 0], []⟩ 8 (by kernel_rfl) (by kernel_rfl) (by kernel_rfl) (by kernel_rfl)) ?_
  intro W base args ds gs before hval0 hW _ hsz0 _
  have hsz : (DataW.weightsEach Tryz.prog (Tryz.f3.params.toList ++ Rows.calibAppliesSpec.plain.varTypes Tryz.prog) (ds ++ gs)).all (· ≤ reachBytes) = true := hsz0
  clear hsz0
  have hval : ∀ (j : Nat) t v, Tryz.f3.params[j]? = some t → args[j]? = some v → Value.okWide Tryz.prog W .any base t v := hval0
  have hW' := hW
  obtain ⟨p, q, hA0, hV, rfl, _, _⟩ := hW
  have hA : DataW.TrodAll enc Tryz.prog W 0 (fun _ => true) true Tryz.f3.params.toList args.toList ds p := hA0
  rw [Tryz.params3] at hA hval hsz
  have hA1 := hA
  obtain ⟨v0, vs0, d0, ds0, p0, ps0, ev0, ed0, ep0, h0, hA2⟩ := trodAll_cons hA1
  obtain ⟨v1, vs1, d1, ds1, p1, ps1, ev1, ed1, ep1, h1, hA3⟩ := trodAll_cons hA2
  obtain ⟨v2, vs2, d2, ds2, p2, ps2, ev2, ed2, ep2, h2, hA4⟩ := trodAll_cons hA3
  obtain ⟨v3, vs3, d3, ds3, p3, ps3, ev3, ed3, ep3, h3, hA5⟩ := trodAll_cons hA4
  obtain ⟨v4, vs4, d4, ds4, p4, ps4, ev4, ed4, ep4, h4, hA6⟩ := trodAll_cons hA5
  obtain ⟨v5, vs5, d5, ds5, p5, ps5, ev5, ed5, ep5, h5, hA7⟩ := trodAll_cons hA6
  obtain ⟨evn, edn, epn⟩ := trodAll_nil hA7
  subst evn edn epn
  subst ev5 ed5 ep5
  subst ev4 ed4 ep4
  subst ev3 ed3 ep3
  subst ev2 ed2 ep2
  subst ev1 ed1 ep1
  subst ed0
  obtain rfl : args = #[v0, v1, v2, v3, v4, v5] := by apply Array.ext'; simpa using ev0
  obtain ⟨rfl, rfl⟩ := trodVars_none hV
  have hw := List.all_eq_true.1 hsz
  obtain ⟨f0, rfl, o0⟩ := open_field (hval 0 _ v0 rfl rfl) h0 (fun n hn => by simpa using hw n (DataW.weights_mem_each (j := 0) rfl rfl n hn))
  obtain ⟨f1, rfl, o1⟩ := open_field (hval 1 _ v1 rfl rfl) h1 (fun n hn => by simpa using hw n (DataW.weights_mem_each (j := 1) rfl rfl n hn))
  obtain ⟨f2, rfl, o2⟩ := open_field (hval 2 _ v2 rfl rfl) h2 (fun n hn => by simpa using hw n (DataW.weights_mem_each (j := 2) rfl rfl n hn))
  obtain ⟨f3, rfl, o3⟩ := open_field (hval 3 _ v3 rfl rfl) h3 (fun n hn => by simpa using hw n (DataW.weights_mem_each (j := 3) rfl rfl n hn))
  obtain ⟨k4, rfl, rfl, rfl, w4⟩ := open_int Tryz.underlying2 (hval 4 _ v4 rfl rfl) h4
  have b4 := bounds_i64 w4
  obtain ⟨k5, rfl, rfl, rfl, w5⟩ := open_int Tryz.underlying2 (hval 5 _ v5 rfl rfl) h5
  have b5 := bounds_i64 w5
  refine (calibApplies_walk f0 f1 f2 f3 k4 k5 W.heap.size W o0 o1 o2 o3).mono fun e W' ⟨he, hb⟩ => ?_
  subst he
  exact ⟨_, rfl, law_post (tb := 4) Tryz.laidOut (of_decide_eq_true (by kernel_rfl)) rfl rfl Tryz.underlying4 hW' ⟨rfl, rfl, rfl⟩ hb⟩

theorem calibApplies_holds : Rows.CalibAppliesSaid :=
  OpenClaim.holds_of_wide 3 Tryz.f3 rfl rfl rfl rfl rfl rfl rfl ⟨rfl, rfl, rfl, rfl, rfl⟩ rfl rfl rfl rfl rfl (by kernel_rfl) Tryz.func3 (by kernel_rfl)
    (of_decide_eq_true (by kernel_rfl)) (by unfold Func.isWrapper; rw [if_neg (of_decide_eq_false (by kernel_rfl))]; exact ⟨rfl, rfl⟩)
    (fun os started H enc _ => calibApplies_lifted os started H enc)

end Go.Proofs.YtlekjkljajeodaaGreat

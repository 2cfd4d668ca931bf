import Derived.Test.YtghallnooijfhaaEphRow
import Derived.Test.YtghallnooijfhaaMg14
namespace Go.Proofs.Ytghallnooijfhaa
open Go.ChangeShapes Go.WideShapes Go.ChangeAt Go.RowKit
set_option maxRecDepth 100000 in
theorem ephemHolds_lifted (os : Os) (started : os.Started) (H : Type) (enc : TypeId × Value → H) :
    ReturnsInHanded {} Try.checked os 4 .any (Rows.ephemHoldsSpec.pre6 enc Try.prog Try.f4 Rows.ephemHoldsRow.domain false) (Rows.ephemHoldsSpec.post enc Try.prog Try.f4 false true false false) := by
  refine returnsInHanded_of_change_sized (C := Try.checked) Try.own started (by kernel_rfl) Try.func4
    (ChangeSpec.witness6 (enc := enc) (C := Try.checked) false ⟨#[], #[.agg #[.slice none 0 0], .int .i64 0, .int .i64 0, .int .i64 0, .int .i64 0], []⟩ 8 (by kernel_rfl) (by kernel_rfl) (by kernel_rfl) (by kernel_rfl)) ?_
  intro W base args ds gs before hval0 hW _ hsz0 _
  have hsz : (DataW.weightsEach Try.prog (Try.f4.params.toList ++ Rows.ephemHoldsSpec.plain.varTypes Try.prog) (ds ++ gs)).all (· ≤ reachBytes) = true := hsz0
  clear hsz0
  have hval : ∀ (j : Nat) t v, Try.f4.params[j]? = some t → args[j]? = some v → Value.okWide Try.prog W .any base t v := hval0
  have hW' := hW
  obtain ⟨p, q, hA0, hV, rfl, _, _⟩ := hW
  have hA : DataW.TrodAll enc Try.prog W 0 (fun _ => true) true Try.f4.params.toList args.toList ds p := hA0
  rw [Try.params4] at hA hval hsz
  have hA1 := hA
  obtain ⟨v0, vs0, d0, ds0, p0, ps0, ev0, ed0, ep0, h0, hA2⟩ := trodAll_cons hA1
  obtain ⟨v1, vs1, d1, ds1, p1, ps1, ev1, ed1, ep1, h1, hA3⟩ := trodAll_cons hA2
  obtain ⟨v2, vs2, d2, ds2, p2, ps2, ev2, ed2, ep2, h2, hA4⟩ := trodAll_cons hA3
  obtain ⟨v3, vs3, d3, ds3, p3, ps3, ev3, ed3, ep3, h3, hA5⟩ := trodAll_cons hA4
  obtain ⟨v4, vs4, d4, ds4, p4, ps4, ev4, ed4, ep4, h4, hA6⟩ := trodAll_cons hA5
  obtain ⟨evn, edn, epn⟩ := trodAll_nil hA6
  subst evn edn epn
  subst ev4 ed4 ep4
  subst ev3 ed3 ep3
  subst ev2 ed2 ep2
  subst ev1 ed1 ep1
  subst ed0
  obtain rfl : args = #[v0, v1, v2, v3, v4] := by apply Array.ext'; simpa using ev0
  obtain ⟨rfl, rfl⟩ := trodVars_none hV
  have hw := List.all_eq_true.1 hsz
  obtain ⟨A0, bs0, c0, rfl, o0⟩ := open_ephem (hval 0 _ v0 rfl rfl) h0 (fun n hn => by simpa using hw n (DataW.weights_mem_each (j := 0) rfl rfl n hn))
  obtain ⟨k1, rfl, rfl, rfl, w1⟩ := open_int Try.underlying3 (hval 1 _ v1 rfl rfl) h1
  have b1 := bounds_i64 w1
  obtain ⟨k2, rfl, rfl, rfl, w2⟩ := open_int Try.underlying2 (hval 2 _ v2 rfl rfl) h2
  have b2 := bounds_i64 w2
  obtain ⟨k3, rfl, rfl, rfl, w3⟩ := open_int Try.underlying2 (hval 3 _ v3 rfl rfl) h3
  have b3 := bounds_i64 w3
  obtain ⟨k4, rfl, rfl, rfl, w4⟩ := open_int Try.underlying2 (hval 4 _ v4 rfl rfl) h4
  have b4 := bounds_i64 w4
  refine (ephemHolds_walk bs0 A0 c0 k1 k2 k3 k4 W o0).mono fun e W' ⟨he, hb⟩ => ?_
  subst he
  exact ⟨_, rfl, law_post (tb := 4) Try.laidOut (of_decide_eq_true (by kernel_rfl)) rfl rfl Try.underlying4 hW' ⟨rfl, rfl, rfl⟩ hb⟩

theorem ephemHolds_holds : Rows.EphemHoldsSaid :=
  OpenClaim.holds_of_wide 4 Try.f4 rfl rfl rfl rfl rfl rfl rfl ⟨rfl, rfl, rfl, rfl, rfl⟩ rfl rfl rfl rfl rfl (by kernel_rfl) Try.func4 (by kernel_rfl)
    (of_decide_eq_true (by kernel_rfl)) (by unfold Func.isWrapper; rw [if_neg (of_decide_eq_false (by kernel_rfl))]; exact ⟨rfl, rfl⟩)
    (fun os started H enc _ => ephemHolds_lifted os started H enc)

end Go.Proofs.Ytghallnooijfhaa

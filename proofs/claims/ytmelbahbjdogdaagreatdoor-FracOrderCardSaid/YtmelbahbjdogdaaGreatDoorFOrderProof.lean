/- FracOrder: the row and its tied card, proved: the law answers true for every input and leaves its arguments as they were; the listed tables of the library are as the program's text lays them. No other condition. -/
import Derived.Test.YtmelbahbjdogdaaGreatDoorFRow
import Derived.Test.YtmelbahbjdogdaaGreatDoorF28
import Derived.Test.YtmelbahbjdogdaaGreatDoorCards
import Derived.Test.YtmelbahbjdogdaaGreatDoorTie
import Derived.LaidMore
import Derived.Lay
import Derived.Carry
import Derived.ChangeMaps5
import Derived.SevenTiedAt
import Derived.Stop.Joined
namespace Go.Proofs.YtmelbahbjdogdaaGreatDoor
open Go.ChangeShapes Go.WideShapes Go.ChangeAt Go.RowKit Go.WideMaps Go.ChangeMaps
set_option maxRecDepth 100000 in
theorem fracOrder_lifted (os : Os) (started : os.Started) (H : Type) (enc : TypeId × Value → H) :
    ReturnsInHanded {} Tryz.checked os 6 .any (fun w args => (Rows.fracOrderSpec.pre enc Tryz.prog Tryz.f6 Rows.fracOrderRow.domain false w args ∧ laidMetH Tryz.prog Rows.fracOrderRow.laid w) ∧ sizedMet enc Tryz.prog Tryz.f6 (OpenSpec.ofChange Rows.fracOrderSpec) false w args)
      (Rows.fracOrderSpec.post enc Tryz.prog Tryz.f6 false true false false) := by
  refine returnsInHanded_of_change_and (C := Tryz.checked) (X := fun w _ => laidMetH Tryz.prog Rows.fracOrderRow.laid w) (fun _ _ _ hh h => h.of_heap hh) Tryz.own started (by kernel_rfl) Tryz.func6
    (ChangeSpec.witness_shaped (enc := enc) (C := Tryz.checked) (os := os) (X := fun w _ => laidMetH Tryz.prog Rows.fracOrderRow.laid w) false (World.laidAll Tryz.prog os Rows.fracOrderRow.laid) #[.agg #[.bool false, .slice none 0 0, .bool false, .slice none 0 0], .agg #[.bool false, .slice none 0 0, .bool false, .slice none 0 0], .agg #[.bool false, .slice none 0 0, .bool false, .slice none 0 0]] 8 (World.laidAll_os _ _ _)
      (World.shaped_of_ZipB (by kernel_rfl) (by kernel_rfl)) (by kernel_rfl) (by kernel_rfl) (by kernel_rfl)
      (by rw [MakeChecks.laidMetH_plain _ _ _ (by kernel_rfl)]; exact laidMet_laidAll _ (by kernel_rfl) (by kernel_rfl))) ?_
  intro W base args ds gs before hval0 hW _ hsz0 hL _
  have hsz : (DataW.weightsEach Tryz.prog (Tryz.f6.params.toList ++ Rows.fracOrderSpec.plain.varTypes Tryz.prog) (ds ++ gs)).all (· ≤ reachBytes) = true := hsz0
  clear hsz0
  have hval : ∀ (j : Nat) t v, Tryz.f6.params[j]? = some t → args[j]? = some v → Value.okWide Tryz.prog W .any base t v := hval0
  have hW' := hW
  obtain ⟨p, q, hA0, hV, rfl, _, _⟩ := hW
  have hA : DataW.TrodAll enc Tryz.prog W 0 (fun _ => true) true Tryz.f6.params.toList args.toList ds p := hA0
  rw [Tryz.params6] at hA hval hsz
  obtain ⟨v0, v1, v2, d0, d1, d2, p0, p1, p2, rfl, rfl, rfl, h0, h1, h2⟩ := trodAll_three hA
  obtain ⟨rfl, rfl⟩ := trodVars_none hV
  have hw := List.all_eq_true.1 hsz
  obtain ⟨na, Aa, la, ca, nb, Ab, lb, cb, rfl, hsa, hsb⟩ := open_frac (hval 0 _ v0 rfl rfl) h0 (fun n hn => by simpa using hw n (DataW.weights_mem_each (j := 0) rfl rfl n hn))
  obtain ⟨nc, Ac, lc, cc, nd, Ad, ld, cd, rfl, hsc, hsd⟩ := open_frac (hval 1 _ v1 rfl rfl) h1 (fun n hn => by simpa using hw n (DataW.weights_mem_each (j := 1) rfl rfl n hn))
  obtain ⟨ne, Ae, le, ce, nf, Af, lf, cf, rfl, hse, hsf⟩ := open_frac (hval 2 _ v2 rfl rfl) h2 (fun n hn => by simpa using hw n (DataW.weights_mem_each (j := 2) rfl rfl n hn))
  refine (fracOrder_walk na nb nc nd ne nf Aa Ab Ac Ad Ae Af la lb lc ld le lf ca cb cc cd ce cf  W hsa hsb hsc hsd hse hsf).mono fun e W' ⟨he, hb⟩ => ?_
  subst he
  exact ⟨_, rfl, law_post (tb := 4) Tryz.laidOut (of_decide_eq_true (by kernel_rfl)) rfl rfl Tryz.underlying4 hW' ⟨rfl, rfl, rfl⟩ hb⟩

theorem fracOrder_holds : Rows.FracOrderSaid :=
  OpenClaim.holds_of_wide 6 Tryz.f6 rfl rfl rfl rfl rfl rfl rfl ⟨rfl, rfl, rfl, rfl, rfl⟩ rfl rfl rfl rfl rfl (by kernel_rfl) Tryz.func6 (by kernel_rfl)
    (of_decide_eq_true (by kernel_rfl)) (by unfold Func.isWrapper; rw [if_neg (of_decide_eq_false (by kernel_rfl))]; exact ⟨rfl, rfl⟩)
    (fun os started H enc _ => fracOrder_lifted os started H enc)

theorem fracOrderCard_holds : Rows.FracOrderCardSaid :=
  Claim7.holds_tied_plain_at .later [] Rows.fracOrderCard.laidKinds true Rows.fracOrderCard.stood.harness Rows.fracOrderCard.stood.looks fracOrder_holds (fun _ h => by cases h) (by kernel_rfl) (fun _ h => by cases h) fracOrder_row_tie rfl ⟨rfl, rfl⟩ (by kernel_rfl) rfl
    (fun f fn hf hfn => by
      obtain rfl : f = 6 := Option.some.inj ((show Tryz.prog.funcNamed "planisphere/planispherelaw02.FracOrder" = some 6 by kernel_rfl).symm.trans hf) |>.symm
      obtain rfl : fn = Tryz.f6 := (Option.some.inj (Tryz.func6.symm.trans hfn)).symm
      exact ⟨by kernel_rfl, fun j t ht => by
        rw [Tryz.params6] at ht
        have hm : t ∈ [26, 26, 26] := by simpa using Array.mem_of_getElem? ht
        have hall : ([26, 26, 26].all fun u => !Tryz.prog.wantsStandIn u) = true := by kernel_rfl
        exact (show Tryz.prog.wantsStandIn t = false by simpa using List.all_eq_true.1 hall t hm)⟩)
    (by kernel_rfl)

end Go.Proofs.YtmelbahbjdogdaaGreatDoor

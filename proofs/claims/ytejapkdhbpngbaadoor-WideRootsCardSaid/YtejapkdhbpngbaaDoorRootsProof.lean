/- WideRoots: the row and its tied card, proved: the law answers true for every input and leaves its arguments as they were; the listed tables of the library are as the program's text lays them. No other condition. -/
import Derived.Test.YtejapkdhbpngbaaDoorRow
import Derived.Test.YtejapkdhbpngbaaDoorRoots
import Derived.Test.YtejapkdhbpngbaaDoorCards
import Derived.Test.YtejapkdhbpngbaaDoorTie
import Derived.LaidMore
import Derived.Lay
import Derived.Carry
import Derived.ChangeMaps5
import Derived.SevenTiedAt
import Derived.Stop.Joined
namespace Go.Proofs.YtejapkdhbpngbaaDoor
open Go.ChangeShapes Go.WideShapes Go.ChangeAt Go.RowKit Go.WideMaps Go.ChangeMaps
set_option maxRecDepth 100000 in
theorem wideRoots_lifted (os : Os) (started : os.Started) (H : Type) (enc : TypeId × Value → H) :
    ReturnsInHanded {} Tryd.checked os 7 .any (fun w args => (Rows.wideRootsSpec.pre enc Tryd.prog Tryd.f7 Rows.wideRootsRow.domain false w args ∧ laidMetH Tryd.prog Rows.wideRootsRow.laid w) ∧ sizedMet enc Tryd.prog Tryd.f7 (OpenSpec.ofChange Rows.wideRootsSpec) false w args)
      (Rows.wideRootsSpec.post enc Tryd.prog Tryd.f7 false true false false) := by
  refine returnsInHanded_of_change_and (C := Tryd.checked) (X := fun w _ => laidMetH Tryd.prog Rows.wideRootsRow.laid w) (fun _ _ _ hh h => h.of_heap hh) Tryd.own started (by kernel_rfl) Tryd.func7
    (ChangeSpec.witness_shaped (enc := enc) (C := Tryd.checked) (os := os) (X := fun w _ => laidMetH Tryd.prog Rows.wideRootsRow.laid w) false (World.laidAll Tryd.prog os Rows.wideRootsRow.laid) #[.agg #[.bool false, .slice none 0 0], .agg #[.bool false, .slice none 0 0], .int .u8 0] 8 (World.laidAll_os _ _ _)
      (World.shaped_of_ZipB (by kernel_rfl) (by kernel_rfl)) (by kernel_rfl) (by kernel_rfl) (by kernel_rfl)
      (by rw [MakeChecks.laidMetH_plain _ _ _ (by kernel_rfl)]; exact laidMet_laidAll _ (by kernel_rfl) (by kernel_rfl))) ?_
  intro W base args ds gs before hval0 hW _ hsz0 hL _
  have hsz : (DataW.weightsEach Tryd.prog (Tryd.f7.params.toList ++ Rows.wideRootsSpec.plain.varTypes Tryd.prog) (ds ++ gs)).all (· ≤ reachBytes) = true := hsz0
  clear hsz0
  have hval : ∀ (j : Nat) t v, Tryd.f7.params[j]? = some t → args[j]? = some v → Value.okWide Tryd.prog W .any base t v := hval0
  have hW' := hW
  obtain ⟨p, q, hA0, hV, rfl, _, _⟩ := hW
  have hA : DataW.TrodAll enc Tryd.prog W 0 (fun _ => true) true Tryd.f7.params.toList args.toList ds p := hA0
  rw [Tryd.params7] at hA hval hsz
  obtain ⟨v0, v1, v2, d0, d1, d2, p0, p1, p2, rfl, rfl, rfl, h0, h1, h2⟩ := trodAll_three hA
  obtain ⟨rfl, rfl⟩ := trodVars_none hV
  have hw := List.all_eq_true.1 hsz
  obtain ⟨na, A1, la, ca, rfl, hsa⟩ := open_wide (hval 0 _ v0 rfl rfl) h0 (fun n hn => by simpa using hw n (DataW.weights_mem_each (j := 0) rfl rfl n hn))
  obtain ⟨nb, A2, lb, cb, rfl, hsb⟩ := open_wide (hval 1 _ v1 rfl rfl) h1 (fun n hn => by simpa using hw n (DataW.weights_mem_each (j := 1) rfl rfl n hn))
  obtain ⟨kc, rfl, rfl, rfl, wc⟩ := open_int Tryd.underlying5 (hval 2 _ v2 rfl rfl) h2
  have bc := bounds_u8 wc
  refine (wideRoots_walk na nb A1 A2 la lb ca cb kc bc.1 bc.2 W hsa hsb).mono fun e W' ⟨he, hb⟩ => ?_
  subst he
  exact ⟨_, rfl, law_post (tb := 4) Tryd.laidOut (of_decide_eq_true (by kernel_rfl)) rfl rfl Tryd.underlying4 hW' ⟨rfl, rfl, rfl⟩ hb⟩

theorem wideRoots_holds : Rows.WideRootsSaid :=
  OpenClaim.holds_of_wide 7 Tryd.f7 rfl rfl rfl rfl rfl rfl rfl ⟨rfl, rfl, rfl, rfl, rfl⟩ rfl rfl rfl rfl rfl (by kernel_rfl) Tryd.func7 (by kernel_rfl)
    (of_decide_eq_true (by kernel_rfl)) (by unfold Func.isWrapper; rw [if_neg (of_decide_eq_false (by kernel_rfl))]; exact ⟨rfl, rfl⟩)
    (fun os started H enc _ => wideRoots_lifted os started H enc)

theorem wideRootsCard_holds : Rows.WideRootsCardSaid :=
  Claim7.holds_tied_plain_at .later [] Rows.wideRootsCard.laidKinds true Rows.wideRootsCard.stood.harness Rows.wideRootsCard.stood.looks wideRoots_holds (fun _ h => by cases h) (by kernel_rfl) (fun _ h => by cases h) wideRoots_row_tie rfl ⟨rfl, rfl⟩ (by kernel_rfl) rfl
    (fun f fn hf hfn => by
      obtain rfl : f = 7 := Option.some.inj ((show Tryd.prog.funcNamed "planisphere/planispherelaw01.WideRoots" = some 7 by kernel_rfl).symm.trans hf) |>.symm
      obtain rfl : fn = Tryd.f7 := (Option.some.inj (Tryd.func7.symm.trans hfn)).symm
      exact ⟨by kernel_rfl, fun j t ht => by
        rw [Tryd.params7] at ht
        have hm : t ∈ [24, 24, 5] := by simpa using Array.mem_of_getElem? ht
        have hall : ([24, 24, 5].all fun u => !Tryd.prog.wantsStandIn u) = true := by kernel_rfl
        exact (show Tryd.prog.wantsStandIn t = false by simpa using List.all_eq_true.1 hall t hm)⟩)
    (by kernel_rfl)

end Go.Proofs.YtejapkdhbpngbaaDoor

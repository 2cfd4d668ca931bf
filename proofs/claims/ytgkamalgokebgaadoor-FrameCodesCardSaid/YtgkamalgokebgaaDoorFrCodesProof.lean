import Derived.Test.YtgkamalgokebgaaDoorRow
import Derived.Test.YtgkamalgokebgaaDoorFrT
import Derived.Test.YtgkamalgokebgaaDoorCards
import Derived.Test.YtgkamalgokebgaaDoorTie
import Derived.LaidMore
import Derived.Lay
import Derived.Carry
import Derived.ChangeMaps5
import Derived.SevenTiedAt
import Derived.Stop.Joined
namespace Go.Proofs.YtgkamalgokebgaaDoor
open Go.ChangeShapes Go.WideShapes Go.ChangeAt Go.RowKit Go.WideMaps Go.ChangeMaps
set_option maxRecDepth 100000 in
theorem frameCodes_lifted (os : Os) (started : os.Started) (H : Type) (enc : TypeId × Value → H) :
    ReturnsInHanded {} Tryd.checked os 3 .any (fun w args => (Rows.frameCodesSpec.pre enc Tryd.prog Tryd.f3 Rows.frameCodesRow.domain false w args ∧ laidMetH Tryd.prog Rows.frameCodesRow.laid w) ∧ sizedMet enc Tryd.prog Tryd.f3 (OpenSpec.ofChange Rows.frameCodesSpec) false w args)
      (Rows.frameCodesSpec.post enc Tryd.prog Tryd.f3 false true false false) := by
  refine ret_and_shaped (C := Tryd.checked) (X := fun w _ => laidMetH Tryd.prog Rows.frameCodesRow.laid w) (fun _ _ _ hh h => h.of_heap hh) Tryd.own started (by kernel_rfl) Tryd.func3
    (ChangeSpec.witness_shaped (enc := enc) (C := Tryd.checked) (os := os) (X := fun w _ => laidMetH Tryd.prog Rows.frameCodesRow.laid w) false (World.laidAll Tryd.prog os Rows.frameCodesRow.laid) #[.int .u32 0] 8 (World.laidAll_os _ _ _)
      (World.shaped_of_ZipB (by kernel_rfl) (by kernel_rfl)) (by kernel_rfl) (by kernel_rfl) (by kernel_rfl)
      (by rw [MakeChecks.laidMetH_plain _ _ _ (by kernel_rfl)]; exact laidMet_laidAll _ (by kernel_rfl) (by kernel_rfl))) ?_
  intro W base args ds gs before hval0 hW hsz0 hL hsh
  have hL2 : laidMet Tryd.prog Rows.frameCodesRow.laid W := by rw [← MakeChecks.laidMetH_plain _ _ _ (by kernel_rfl)]; exact hL
  have hE : Env W := env_of hL2 (by kernel_rfl) hsh
  have hB : BarE W := bar_of hL2 (by kernel_rfl)
  clear hL hL2 hsh
  have hsz : (DataW.weightsEach Tryd.prog (Tryd.f3.params.toList ++ Rows.frameCodesSpec.plain.varTypes Tryd.prog) (ds ++ gs)).all (· ≤ reachBytes) = true := hsz0
  clear hsz0
  have hval : ∀ (j : Nat) t v, Tryd.f3.params[j]? = some t → args[j]? = some v → Value.okWide Tryd.prog W .any base t v := hval0
  have hW' := hW
  obtain ⟨p, q, hA0, hV, rfl, _, _⟩ := hW
  have hA : DataW.TrodAll enc Tryd.prog W 0 (fun _ => true) true Tryd.f3.params.toList args.toList ds p := hA0
  rw [Tryd.params3] at hA hval hsz
  obtain ⟨v0, d0, rfl, rfl, h0⟩ := trodAll_one hA
  obtain ⟨rfl, rfl⟩ := trodVars_none hV
  have hw := List.all_eq_true.1 hsz
  obtain ⟨ka, rfl, rfl, rfl, wa⟩ := open_int Tryd.underlying22 (hval 0 _ v0 rfl rfl) h0
  have ba := bounds_u32 wa
  obtain ⟨m, rfl⟩ : ∃ m : Nat, ka = (m : Int) := ⟨ka.toNat, by omega⟩
  refine (frameCodes_walk m (by omega) W hE hB).mono fun e W' ⟨he, hb⟩ => ?_
  subst he
  exact ⟨_, rfl, law_post (tb := 4) Tryd.laidOut (of_decide_eq_true (by kernel_rfl)) rfl rfl Tryd.underlying4 hW' ⟨rfl, rfl, rfl⟩ hb⟩

theorem frameCodes_holds : Rows.FrameCodesSaid :=
  OpenClaim.holds_of_wide 3 Tryd.f3 rfl rfl rfl rfl rfl rfl rfl ⟨rfl, rfl, rfl, rfl, rfl⟩ rfl rfl rfl rfl rfl (by kernel_rfl) Tryd.func3 (by kernel_rfl)
    (of_decide_eq_true (by kernel_rfl)) (by unfold Func.isWrapper; rw [if_neg (of_decide_eq_false (by kernel_rfl))]; exact ⟨rfl, rfl⟩)
    (fun os started H enc _ => frameCodes_lifted os started H enc)

theorem frameCodesCard_holds : Rows.FrameCodesCardSaid :=
  Claim7.holds_tied_plain_at .later [] Rows.frameCodesCard.laidKinds true Rows.frameCodesCard.stood.harness Rows.frameCodesCard.stood.looks frameCodes_holds (fun _ h => by cases h) (by kernel_rfl) (fun _ h => by cases h) frameCodes_row_tie rfl ⟨rfl, rfl⟩ (by kernel_rfl) rfl
    (fun f fn hf hfn => by
      obtain rfl : f = 3 := Option.some.inj ((show Tryd.prog.funcNamed "planisphere/planispherelaw09.FrameCodes" = some 3 by kernel_rfl).symm.trans hf) |>.symm
      obtain rfl : fn = Tryd.f3 := (Option.some.inj (Tryd.func3.symm.trans hfn)).symm
      exact ⟨by kernel_rfl, fun j t ht => by
        rw [Tryd.params3] at ht
        have hm : t ∈ [22] := by simpa using Array.mem_of_getElem? ht
        have hall : ([22].all fun u => !Tryd.prog.wantsStandIn u) = true := by kernel_rfl
        exact (show Tryd.prog.wantsStandIn t = false by simpa using List.all_eq_true.1 hall t hm)⟩)
    (by kernel_rfl)

end Go.Proofs.YtgkamalgokebgaaDoor

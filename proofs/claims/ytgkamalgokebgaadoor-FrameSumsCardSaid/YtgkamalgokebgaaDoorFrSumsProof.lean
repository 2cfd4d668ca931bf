import Derived.Test.YtgkamalgokebgaaDoorRow
import Derived.Test.YtgkamalgokebgaaDoorFrT
import Derived.Test.YtgkamalgokebgaaDoorCards
import Derived.Test.YtgkamalgokebgaaDoorTie
import Derived.LaidMore
import Derived.Lay
import Derived.Carry
import Derived.ChangeMaps5
import Derived.SevenTiedAt
import Derived.Stop.Joined
namespace Go.Proofs.YtgkamalgokebgaaDoor
open Go.ChangeShapes Go.WideShapes Go.ChangeAt Go.RowKit Go.WideMaps Go.ChangeMaps
set_option maxRecDepth 100000 in
theorem frameSums_lifted (os : Os) (started : os.Started) (H : Type) (enc : TypeId × Value → H) :
    ReturnsInHanded {} Tryd.checked os 4 .any (fun w args => (Rows.frameSumsSpec.pre enc Tryd.prog Tryd.f4 Rows.frameSumsRow.domain false w args ∧ laidMetH Tryd.prog Rows.frameSumsRow.laid w) ∧ sizedMet enc Tryd.prog Tryd.f4 (OpenSpec.ofChange Rows.frameSumsSpec) false w args)
      (Rows.frameSumsSpec.post enc Tryd.prog Tryd.f4 false true false false) := by
  refine ret_and_shaped (C := Tryd.checked) (X := fun w _ => laidMetH Tryd.prog Rows.frameSumsRow.laid w) (fun _ _ _ hh h => h.of_heap hh) Tryd.own started (by kernel_rfl) Tryd.func4
    (ChangeSpec.witness_shaped (enc := enc) (C := Tryd.checked) (os := os) (X := fun w _ => laidMetH Tryd.prog Rows.frameSumsRow.laid w) false (World.laidAll Tryd.prog os Rows.frameSumsRow.laid) #[.string ⟨#[]⟩, .string ⟨#[]⟩] 8 (World.laidAll_os _ _ _)
      (World.shaped_of_ZipB (by kernel_rfl) (by kernel_rfl)) (by kernel_rfl) (by kernel_rfl) (by kernel_rfl)
      (by rw [MakeChecks.laidMetH_plain _ _ _ (by kernel_rfl)]; exact laidMet_laidAll _ (by kernel_rfl) (by kernel_rfl))) ?_
  intro W base args ds gs before hval0 hW hsz0 hL hsh
  have hL2 : laidMet Tryd.prog Rows.frameSumsRow.laid W := by rw [← MakeChecks.laidMetH_plain _ _ _ (by kernel_rfl)]; exact hL
  have hE : Env W := env_of hL2 (by kernel_rfl) hsh
  have hB : BarE W := bar_of hL2 (by kernel_rfl)
  clear hL hL2 hsh
  have hsz : (DataW.weightsEach Tryd.prog (Tryd.f4.params.toList ++ Rows.frameSumsSpec.plain.varTypes Tryd.prog) (ds ++ gs)).all (· ≤ reachBytes) = true := hsz0
  clear hsz0
  have hval : ∀ (j : Nat) t v, Tryd.f4.params[j]? = some t → args[j]? = some v → Value.okWide Tryd.prog W .any base t v := hval0
  have hW' := hW
  obtain ⟨p, q, hA0, hV, rfl, _, _⟩ := hW
  have hA : DataW.TrodAll enc Tryd.prog W 0 (fun _ => true) true Tryd.f4.params.toList args.toList ds p := hA0
  rw [Tryd.params4] at hA hval hsz
  obtain ⟨v0, v1, d0, d1, p0, p1, rfl, rfl, rfl, h0, h1⟩ := trodAll_two hA
  obtain ⟨rfl, rfl⟩ := trodVars_none hV
  have hw := List.all_eq_true.1 hsz
  obtain ⟨sa, rfl, _, _, _⟩ := open_string Tryd.underlying9 (hval 0 _ v0 rfl rfl) h0
  obtain ⟨sb, rfl, _, _, _⟩ := open_string Tryd.underlying9 (hval 1 _ v1 rfl rfl) h1
  obtain ⟨la, rfl⟩ : ∃ l : List UInt8, sa = ⟨l.toArray⟩ := ⟨sa.data.toList, by simp⟩
  obtain ⟨lb, rfl⟩ : ∃ l : List UInt8, sb = ⟨l.toArray⟩ := ⟨sb.data.toList, by simp⟩
  refine (frameSums_walk la lb W hE hB).mono fun e W' ⟨he, hb⟩ => ?_
  subst he
  exact ⟨_, rfl, law_post (tb := 4) Tryd.laidOut (of_decide_eq_true (by kernel_rfl)) rfl rfl Tryd.underlying4 hW' ⟨rfl, rfl, rfl⟩ hb⟩

theorem frameSums_holds : Rows.FrameSumsSaid :=
  OpenClaim.holds_of_wide 4 Tryd.f4 rfl rfl rfl rfl rfl rfl rfl ⟨rfl, rfl, rfl, rfl, rfl⟩ rfl rfl rfl rfl rfl (by kernel_rfl) Tryd.func4 (by kernel_rfl)
    (of_decide_eq_true (by kernel_rfl)) (by unfold Func.isWrapper; rw [if_neg (of_decide_eq_false (by kernel_rfl))]; exact ⟨rfl, rfl⟩)
    (fun os started H enc _ => frameSums_lifted os started H enc)

theorem frameSumsCard_holds : Rows.FrameSumsCardSaid :=
  Claim7.holds_tied_plain_at .later [] Rows.frameSumsCard.laidKinds true Rows.frameSumsCard.stood.harness Rows.frameSumsCard.stood.looks frameSums_holds (fun _ h => by cases h) (by kernel_rfl) (fun _ h => by cases h) frameSums_row_tie rfl ⟨rfl, rfl⟩ (by kernel_rfl) rfl
    (fun f fn hf hfn => by
      obtain rfl : f = 4 := Option.some.inj ((show Tryd.prog.funcNamed "planisphere/planispherelaw09.FrameSums" = some 4 by kernel_rfl).symm.trans hf) |>.symm
      obtain rfl : fn = Tryd.f4 := (Option.some.inj (Tryd.func4.symm.trans hfn)).symm
      exact ⟨by kernel_rfl, fun j t ht => by
        rw [Tryd.params4] at ht
        have hm : t ∈ [9, 9] := by simpa using Array.mem_of_getElem? ht
        have hall : ([9, 9].all fun u => !Tryd.prog.wantsStandIn u) = true := by kernel_rfl
        exact (show Tryd.prog.wantsStandIn t = false by simpa using List.all_eq_true.1 hall t hm)⟩)
    (by kernel_rfl)

end Go.Proofs.YtgkamalgokebgaaDoor

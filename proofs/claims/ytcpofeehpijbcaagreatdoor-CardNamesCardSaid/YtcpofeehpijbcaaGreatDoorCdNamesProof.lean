import Derived.Test.YtcpofeehpijbcaaGreatDoorPbR
import Derived.Test.YtcpofeehpijbcaaGreatDoorNm5
import Derived.Test.YtcpofeehpijbcaaGreatDoorCards
import Derived.Test.YtcpofeehpijbcaaGreatDoorTie
import Derived.LaidMore
import Derived.Lay
import Derived.Carry
import Derived.ChangeMaps5
import Derived.SevenTiedAt
import Derived.Stop.Joined
set_option maxRecDepth 100000
namespace Go.Proofs.YtcpofeehpijbcaaGreatDoor
open Go.ChangeShapes Go.WideShapes Go.ChangeAt Go.RowKit Go.WideMaps Go.ChangeMaps
theorem cardNames_lifted (os:Os) (started:os.Started) (H:Type) (enc:TypeId × Value→H) :
  ReturnsInHanded {} Tryz.checked os 7 .any (fun w args=>(Rows.cardNamesSpec.pre enc Tryz.prog Tryz.f7 Rows.cardNamesRow.domain false w args∧laidMetH Tryz.prog Rows.cardNamesRow.laid w)∧sizedMet enc Tryz.prog Tryz.f7 (OpenSpec.ofChange Rows.cardNamesSpec) false w args)
   (Rows.cardNamesSpec.post enc Tryz.prog Tryz.f7 false true false false):=by
 refine ret_and_shaped (C:=Tryz.checked) (X:=fun w _=>laidMetH Tryz.prog Rows.cardNamesRow.laid w) (fun _ _ _ hh h=>h.of_heap hh) Tryz.own started (by kernel_rfl) Tryz.func7
  (ChangeSpec.witness_shaped (enc:=enc) (C:=Tryz.checked) (os:=os) (X:=fun w _=>laidMetH Tryz.prog Rows.cardNamesRow.laid w) false (World.laidAll Tryz.prog os Rows.cardNamesRow.laid) #[] 8 (World.laidAll_os _ _ _)
   (World.shaped_of_ZipB (by kernel_rfl) (by kernel_rfl)) (by kernel_rfl) (by kernel_rfl) (by kernel_rfl)
   (by rw [MakeChecks.laidMetH_plain _ _ _ (by kernel_rfl)]; exact laidMet_laidAll _ (by kernel_rfl) (by kernel_rfl))) ?_
 intro W base args ds gs before hval0 hW hsz0 hL hsh;have hL2:laidMet Tryz.prog Rows.cardNamesRow.laid W:=(by rw [← MakeChecks.laidMetH_plain _ _ _ (by kernel_rfl)]; exact hL);have hE:Env W:=env_of hL2 (by kernel_rfl) hsh;have hP:EnvP W:=envP_of hL2 hE (by kernel_rfl) (by kernel_rfl);clear hL hL2 hsh;have hsz:(DataW.weightsEach Tryz.prog (Tryz.f7.params.toList ++ Rows.cardNamesSpec.plain.varTypes Tryz.prog) (ds ++ gs)).all (· ≤ reachBytes)=true:=hsz0;clear hsz0;have hval:∀ (j:Nat) t v,Tryz.f7.params[j]? = some t→args[j]? = some v→Value.okWide Tryz.prog W .any base t v:=hval0;have hW':=hW;obtain ⟨p,q,hA0,hV,rfl,_,_⟩:=hW;have hA:DataW.TrodAll enc Tryz.prog W 0 (fun _=>true) true Tryz.f7.params.toList args.toList ds p:=hA0;rw [Tryz.params7] at hA hval hsz;obtain ⟨hargs,rfl,rfl⟩:=trodAll_nil hA;obtain rfl:args=#[]:=by cases args; simp_all
 obtain ⟨rfl,rfl⟩:=trodVars_none hV;have hw:=List.all_eq_true.1 hsz;refine (cardNames_walk W hP).mono fun e W' ⟨he,hb⟩=>?_;subst he;exact ⟨_,rfl,law_post (tb:=4) Tryz.laidOut (of_decide_eq_true (by kernel_rfl)) rfl rfl Tryz.underlying4 hW' ⟨rfl,rfl,rfl⟩ hb⟩
theorem cardNames_holds:Rows.CardNamesSaid:=
 OpenClaim.holds_of_wide 7 Tryz.f7 rfl rfl rfl rfl rfl rfl rfl ⟨rfl,rfl,rfl,rfl,rfl⟩ rfl rfl rfl rfl rfl (by kernel_rfl) Tryz.func7 (by kernel_rfl)
  (of_decide_eq_true (by kernel_rfl)) (by unfold Func.isWrapper; rw [if_neg (of_decide_eq_false (by kernel_rfl))]; exact ⟨rfl,rfl⟩)
  (fun os started H enc _=>cardNames_lifted os started H enc)
theorem cardNamesCard_holds:Rows.CardNamesCardSaid:=
 Claim7.holds_tied_plain_at .later [] Rows.cardNamesCard.laidKinds true Rows.cardNamesCard.stood.harness Rows.cardNamesCard.stood.looks cardNames_holds (fun _ h=>by cases h) (by kernel_rfl) (fun _ h=>by cases h) cardNames_row_tie rfl ⟨rfl,rfl⟩ (by kernel_rfl) rfl
  (fun f fn hf hfn=>by
   obtain rfl:f=7:=Option.some.inj ((show Tryz.prog.funcNamed "planisphere/planispherelaw08.CardNames" = some 7 by kernel_rfl).symm.trans hf) |>.symm;obtain rfl:fn=Tryz.f7:=(Option.some.inj (Tryz.func7.symm.trans hfn)).symm
   exact ⟨by kernel_rfl,fun j t ht=>by
    rw [Tryz.params7] at ht;have hm:t∈[]:=(by simpa using Array.mem_of_getElem? ht);have hall:([].all fun u=>!Tryz.prog.wantsStandIn u)=true:=(by kernel_rfl);exact (show Tryz.prog.wantsStandIn t=false by simpa using List.all_eq_true.1 hall t hm)⟩)
  (by kernel_rfl)
end Go.Proofs.YtcpofeehpijbcaaGreatDoor
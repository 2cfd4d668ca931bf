import Derived.Test.YtcpofeehpijbcaaGreatDoorFmRow
import Derived.Test.YtcpofeehpijbcaaGreatDoorFrT
import Derived.Test.YtcpofeehpijbcaaGreatDoorRfS
import Derived.Test.YtcpofeehpijbcaaGreatDoorCards
import Derived.Test.YtcpofeehpijbcaaGreatDoorTie
import Derived.LaidMore
import Derived.Lay
import Derived.Carry
import Derived.ChangeMaps5
import Derived.SevenTiedAt
import Derived.Stop.Joined
set_option maxRecDepth 100000
namespace Go.Proofs.YtcpofeehpijbcaaGreatDoor
open Go.ChangeShapes Go.WideShapes Go.ChangeAt Go.RowKit Go.WideMaps Go.ChangeMaps
theorem frameScaled_lifted (os:Os) (started:os.Started) (H:Type) (enc:TypeId × Value→H) :
  ReturnsInHanded {} Tryz.checked os 6 .any (fun w args=>(Rows.frameScaledSpec.pre enc Tryz.prog Tryz.f6 Rows.frameScaledRow.domain false w args∧laidMetH Tryz.prog Rows.frameScaledRow.laid w)∧sizedMet enc Tryz.prog Tryz.f6 (OpenSpec.ofChange Rows.frameScaledSpec) false w args)
   (Rows.frameScaledSpec.post enc Tryz.prog Tryz.f6 false true false false):=by
 refine ret_and_shaped (C:=Tryz.checked) (X:=fun w _=>laidMetH Tryz.prog Rows.frameScaledRow.laid w) (fun _ _ _ hh h=>h.of_heap hh) Tryz.own started (by kernel_rfl) Tryz.func6
  (ChangeSpec.witness_shaped (enc:=enc) (C:=Tryz.checked) (os:=os) (X:=fun w _=>laidMetH Tryz.prog Rows.frameScaledRow.laid w) false (World.laidAll Tryz.prog os Rows.frameScaledRow.laid) #[.agg #[.int .i64 0,.slice none 0 0,.slice none 0 0,.slice none 0 0],.int .i64 0,.int .i64 0,.int .i64 0,.int .i64 0] 8 (World.laidAll_os _ _ _)
   (World.shaped_of_ZipB (by kernel_rfl) (by kernel_rfl)) (by kernel_rfl) (by kernel_rfl) (by kernel_rfl)
   (by rw [MakeChecks.laidMetH_plain _ _ _ (by kernel_rfl)]; exact laidMet_laidAll _ (by kernel_rfl) (by kernel_rfl))) ?_
 intro W base args ds gs before hval0 hW hsz0 hL hsh;have hL2:laidMet Tryz.prog Rows.frameScaledRow.laid W:=(by rw [← MakeChecks.laidMetH_plain _ _ _ (by kernel_rfl)]; exact hL);have hE:Env W:=env_of hL2 (by kernel_rfl) hsh;have hB:BarE W:=bar_of hL2 (by kernel_rfl);clear hL hL2 hsh;have hsz:(DataW.weightsEach Tryz.prog (Tryz.f6.params.toList ++ Rows.frameScaledSpec.plain.varTypes Tryz.prog) (ds ++ gs)).all (· ≤ reachBytes)=true:=hsz0;clear hsz0;have hval:∀ (j:Nat) t v,Tryz.f6.params[j]? = some t→args[j]? = some v→Value.okWide Tryz.prog W .any base t v:=hval0;have hW':=hW;obtain ⟨p,q,hA0,hV,rfl,_,_⟩:=hW;have hA:DataW.TrodAll enc Tryz.prog W 0 (fun _=>true) true Tryz.f6.params.toList args.toList ds p:=hA0;rw [Tryz.params6] at hA hval hsz;have hA1:=hA;obtain ⟨v0,vs0,d0,ds0,p0,ps0,ev0,ed0,ep0,h0,hA2⟩:=trodAll_cons hA1;obtain ⟨v1,vs1,d1,ds1,p1,ps1,ev1,ed1,ep1,h1,hA3⟩:=trodAll_cons hA2;obtain ⟨v2,vs2,d2,ds2,p2,ps2,ev2,ed2,ep2,h2,hA4⟩:=trodAll_cons hA3;obtain ⟨v3,vs3,d3,ds3,p3,ps3,ev3,ed3,ep3,h3,hA5⟩:=trodAll_cons hA4;obtain ⟨v4,vs4,d4,ds4,p4,ps4,ev4,ed4,ep4,h4,hA6⟩:=trodAll_cons hA5;obtain ⟨evn,edn,epn⟩:=trodAll_nil hA6;subst evn edn epn;subst ev4 ed4 ep4;subst ev3 ed3 ep3;subst ev2 ed2 ep2;subst ev1 ed1 ep1;subst ed0;obtain rfl:args=#[v0,v1,v2,v3,v4]:=by apply Array.ext'; simpa using ev0
 obtain ⟨rfl,rfl⟩:=trodVars_none hV;have hw:=List.all_eq_true.1 hsz;obtain ⟨ba,sha,rawa,csa,Aa,Ba,Ca,ca,da,ea,rfl,hba,hsa,hra,hca⟩:=open_frame (hval 0 _ v0 rfl rfl) h0 (fun n hn=>by simpa using hw n (DataW.weights_mem_each (j:=0) rfl rfl n hn));obtain ⟨kb,rfl,rfl,rfl,wb⟩:=open_int Tryz.underlying3 (hval 1 _ v1 rfl rfl) h1;have bb:=bounds_i64 wb;obtain ⟨kc,rfl,rfl,rfl,wc⟩:=open_int Tryz.underlying3 (hval 2 _ v2 rfl rfl) h2;have bc:=bounds_i64 wc;obtain ⟨kd,rfl,rfl,rfl,wd⟩:=open_int Tryz.underlying2 (hval 3 _ v3 rfl rfl) h3;have bd:=bounds_i64 wd;obtain ⟨ke,rfl,rfl,rfl,we⟩:=open_int Tryz.underlying2 (hval 4 _ v4 rfl rfl) h4;have be:=bounds_i64 we;refine (frameScaled_walk ba sha rawa csa Aa Ba Ca ca da ea hba hsa hra hca hE hB kb kc kd ke bb.1 bb.2 bc.1 bc.2 bd.1 bd.2 be.1 be.2).mono fun e W' ⟨he,hb⟩=>?_;subst he;exact ⟨_,rfl,law_post (tb:=4) Tryz.laidOut (of_decide_eq_true (by kernel_rfl)) rfl rfl Tryz.underlying4 hW' ⟨rfl,rfl,rfl⟩ hb⟩
theorem frameScaled_holds:Rows.FrameScaledSaid:=
 OpenClaim.holds_of_wide 6 Tryz.f6 rfl rfl rfl rfl rfl rfl rfl ⟨rfl,rfl,rfl,rfl,rfl⟩ rfl rfl rfl rfl rfl (by kernel_rfl) Tryz.func6 (by kernel_rfl)
  (of_decide_eq_true (by kernel_rfl)) (by unfold Func.isWrapper; rw [if_neg (of_decide_eq_false (by kernel_rfl))]; exact ⟨rfl,rfl⟩)
  (fun os started H enc _=>frameScaled_lifted os started H enc)
theorem frameScaledCard_holds:Rows.FrameScaledCardSaid:=
 Claim7.holds_tied_plain_at .later [] Rows.frameScaledCard.laidKinds true Rows.frameScaledCard.stood.harness Rows.frameScaledCard.stood.looks frameScaled_holds (fun _ h=>by cases h) (by kernel_rfl) (fun _ h=>by cases h) frameScaled_row_tie rfl ⟨rfl,rfl⟩ (by kernel_rfl) rfl
  (fun f fn hf hfn=>by
   obtain rfl:f=6:=Option.some.inj ((show Tryz.prog.funcNamed "planisphere/planispherelaw09.FrameScaled" = some 6 by kernel_rfl).symm.trans hf) |>.symm;obtain rfl:fn=Tryz.f6:=(Option.some.inj (Tryz.func6.symm.trans hfn)).symm
   exact ⟨by kernel_rfl,fun j t ht=>by
    rw [Tryz.params6] at ht;have hm:t∈[53,3,3,2,2]:=(by simpa using Array.mem_of_getElem? ht);have hall:([53,3,3,2,2].all fun u=>!Tryz.prog.wantsStandIn u)=true:=(by kernel_rfl);exact (show Tryz.prog.wantsStandIn t=false by simpa using List.all_eq_true.1 hall t hm)⟩)
  (by kernel_rfl)
end Go.Proofs.YtcpofeehpijbcaaGreatDoor
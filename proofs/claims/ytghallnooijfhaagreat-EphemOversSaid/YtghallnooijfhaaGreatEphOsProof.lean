import Derived.Test.YtghallnooijfhaaGreatEphRow
import Derived.Test.YtghallnooijfhaaGreatMg20
set_option maxRecDepth 100000
namespace Go.Proofs.YtghallnooijfhaaGreat
open Go.ChangeShapes Go.WideShapes Go.ChangeAt Go.RowKit
theorem Tryz.own:ownKnob Tryz.prog.godebug=none:=by kernel_rfl
theorem Tryz.laidOut:laidOutB Tryz.prog=true:=by kernel_rfl
theorem ephemOvers_lifted (os:Os) (started:os.Started) (H:Type) (enc:TypeId × Value→H) :
  ReturnsInHanded {} Tryz.checked os 3 .any (Rows.ephemOversSpec.pre6 enc Tryz.prog Tryz.f3 Rows.ephemOversRow.domain false) (Rows.ephemOversSpec.post enc Tryz.prog Tryz.f3 false true false false):=by
 refine returnsInHanded_of_change_sized (C:=Tryz.checked) Tryz.own started (by kernel_rfl) Tryz.func3
  (ChangeSpec.witness6 (enc:=enc) (C:=Tryz.checked) false ⟨#[],#[.agg #[.slice none 0 0],.int .i64 0,.int .i64 0,.int .i64 0],[]⟩ 8 (by kernel_rfl) (by kernel_rfl) (by kernel_rfl) (by kernel_rfl)) ?_
 intro W base args ds gs before hval0 hW _ hsz0 _;have hsz:(DataW.weightsEach Tryz.prog (Tryz.f3.params.toList ++ Rows.ephemOversSpec.plain.varTypes Tryz.prog) (ds ++ gs)).all (· ≤ reachBytes)=true:=hsz0;clear hsz0;have hval:∀ (j:Nat) t v,Tryz.f3.params[j]? = some t→args[j]? = some v→Value.okWide Tryz.prog W .any base t v:=hval0;have hW':=hW;obtain ⟨p,q,hA0,hV,rfl,_,_⟩:=hW;have hA:DataW.TrodAll enc Tryz.prog W 0 (fun _=>true) true Tryz.f3.params.toList args.toList ds p:=hA0;rw [Tryz.params3] at hA hval hsz;have hA1:=hA;obtain ⟨v0,vs0,d0,ds0,p0,ps0,ev0,ed0,ep0,h0,hA2⟩:=trodAll_cons hA1;obtain ⟨v1,vs1,d1,ds1,p1,ps1,ev1,ed1,ep1,h1,hA3⟩:=trodAll_cons hA2;obtain ⟨v2,vs2,d2,ds2,p2,ps2,ev2,ed2,ep2,h2,hA4⟩:=trodAll_cons hA3;obtain ⟨v3,vs3,d3,ds3,p3,ps3,ev3,ed3,ep3,h3,hA5⟩:=trodAll_cons hA4;obtain ⟨evn,edn,epn⟩:=trodAll_nil hA5;subst evn edn epn;subst ev3 ed3 ep3;subst ev2 ed2 ep2;subst ev1 ed1 ep1;subst ed0;obtain rfl:args=#[v0,v1,v2,v3]:=by apply Array.ext'; simpa using ev0
 obtain ⟨rfl,rfl⟩:=trodVars_none hV;have hw:=List.all_eq_true.1 hsz;obtain ⟨A0,bs0,c0,rfl,o0⟩:=open_ephem (hval 0 _ v0 rfl rfl) h0 (fun n hn=>by simpa using hw n (DataW.weights_mem_each (j:=0) rfl rfl n hn));obtain ⟨k1,rfl,rfl,rfl,w1⟩:=open_int Tryz.underlying3 (hval 1 _ v1 rfl rfl) h1;have b1:=bounds_i64 w1;obtain ⟨k2,rfl,rfl,rfl,w2⟩:=open_int Tryz.underlying2 (hval 2 _ v2 rfl rfl) h2;have b2:=bounds_i64 w2;obtain ⟨k3,rfl,rfl,rfl,w3⟩:=open_int Tryz.underlying2 (hval 3 _ v3 rfl rfl) h3;have b3:=bounds_i64 w3;refine (ephemOvers_walk bs0 A0 c0 k1 k2 k3 W o0).mono fun e W' ⟨he,hb⟩=>?_;subst he;exact ⟨_,rfl,law_post (tb:=4) Tryz.laidOut (of_decide_eq_true (by kernel_rfl)) rfl rfl Tryz.underlying4 hW' ⟨rfl,rfl,rfl⟩ hb⟩
theorem ephemOvers_holds:Rows.EphemOversSaid:=
 OpenClaim.holds_of_wide 3 Tryz.f3 rfl rfl rfl rfl rfl rfl rfl ⟨rfl,rfl,rfl,rfl,rfl⟩ rfl rfl rfl rfl rfl (by kernel_rfl) Tryz.func3 (by kernel_rfl)
  (of_decide_eq_true (by kernel_rfl)) (by unfold Func.isWrapper; rw [if_neg (of_decide_eq_false (by kernel_rfl))]; exact ⟨rfl,rfl⟩)
  (fun os started H enc _=>ephemOvers_lifted os started H enc)
end Go.Proofs.YtghallnooijfhaaGreat
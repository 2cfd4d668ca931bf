import Derived.Test.YtcpofeehpijbcaaGreatDoorMg9
import Derived.Lib.LaidTab
import Derived.LaidSub
import Derived.Shelf.Vars
namespace Go.Proofs.YtcpofeehpijbcaaGreatDoor
open Go.ChangeShapes Go.WideShapes Go.ChangeAt Go.RowKit Go.WideMaps Go.ChangeMaps
theorem ret_and_shaped {H:Type} {enc:TypeId × Value→H} {a:Assume} {C:Checked} {os:Os} {f:FuncId} {fn:Func} {s:ChangeSpec} {conds:List PathCond} {apart fresh handsOn again:Bool} {X:World→Array Value→Prop}
  (hX:∀ (w w':World) (args:Array Value),w.heap=w'.heap→X w args→X w' args)
  (own:ownKnob C.prog.godebug=none) (started:os.Started) (noInit:C.prog.inits.idxOf? f=none) (hfn:C.prog.funcs[f]? = some fn)
  (witness:∃ (w:World) (tape:Tape) (i:Input),w.os=os∧(w.forCall tape i).Shaped C.prog∧i.vars=[]∧Input.okWide C.prog (w.forCall tape i) .any w.heap.size f i ∧
   ((s.pre enc C.prog fn conds apart (w.forCall tape i).memory i.args∧X (w.forCall tape i).memory i.args)∧sizedMet enc C.prog fn (OpenSpec.ofChange s) apart (w.forCall tape i).memory i.args)∧a.holds C.prog (lone (Frame.enter C.prog f i.args .normal) [] (w.forCall tape i)))
  (contract:∀ (W:World) (base:Nat) (args:Array Value) (ds gs:List (DataW H)) (before:List MemPlace),
   (∀ (j:Nat) t v,fn.params[j]? = some t→args[j]? = some v→Value.okWide C.prog W .any base t v) →
   DataW.Whole enc C.prog fn.params.toList s.vars apart W args.toList ds gs before →
   (DataW.weightsEach C.prog (fn.params.toList ++ s.plain.varTypes C.prog) (ds ++ gs)).all (· ≤ reachBytes)=true→X W args→W.ShapedOpen C.prog →
   Calls C.prog f args W fun e W'=>∃ v,e=.returned v∧s.post enc C.prog fn apart fresh handsOn again W args v W') :
  ReturnsInHanded a C os f .any (fun w args=>(s.pre enc C.prog fn conds apart w args∧X w args)∧sizedMet enc C.prog fn (OpenSpec.ofChange s) apart w args) (s.post enc C.prog fn apart fresh handsOn again):=by
 refine returnsInHanded_of_calls own started noInit witness ?_;intro w tape i _ hsh _ hok hpre _;obtain ⟨_,_,_,fn',hfn',_,_,_,_,hval⟩:=hok;have e:fn'=fn:=Option.some.inj (hfn'.symm.trans hfn);subst e;obtain ⟨⟨⟨ds,gs,before,hw,_⟩,hx⟩,hz⟩:=hpre;have hw':=DataW.Whole.of_heap (w':=w.forCall tape i) (by rfl) hw;refine (contract (w.forCall tape i) w.heap.size i.args ds gs before hval hw' (hz.weights hw) (hX _ _ _ (by rfl) hx) hsh).mono fun e W' ⟨v,he,hp⟩=>?_;subst he;exact ChangeSpec.post_blind hp
theorem cells_of_tab22 {H:Type} {enc:TypeId × Value→H} {P:Program} {w:World} {base:Nat} {sp:Nat→Bool} {held:Bool} {fuel:Nat} {t e e2:TypeId} {k:IntKind} {cs:List Value} {y z:List Int} {p:List MemPlace}
  (ht:P.underlying t=some (.array 2 e)) (he:P.underlying e=some (.array 2 e2)) (he2:P.underlying e2=some (.int k)) (hc2:P.cellsOf e2=1) (hce:P.cellsOf e=2) (hct:P.cellsOf t=4)
  (h:DataW.trod enc P w base sp held fuel t cs=some (.agg [Lib.tabData k y,Lib.tabData k z],p)):cs.take 2=y.map (fun x=>Value.int k x)∧(cs.drop 2).take 2=z.map (fun x=>Value.int k x):=by
 cases fuel with
 | zero=>simp [DataW.trod] at h
 | succ fuel=>
  simp only [DataW.trod,ht,hce,hct] at h;split at h
  ·obtain ⟨xs,hm,hx⟩:=Option.map_eq_some_iff.1 h
   have hxs:xs.map (·.1)=[Lib.tabData k y,Lib.tabData k z]:=by
    have:=congrArg Prod.fst hx;simpa using this
   obtain ⟨b0,hb0,hf0⟩:=Lib.mapM_at hm 0 0 (by simp);obtain ⟨b1,hb1,hf1⟩:=Lib.mapM_at hm 1 1 (by simp)
   have g0:b0.1=Lib.tabData k y:=by
    have:=congrArg (·[0]?) hxs;simpa [hb0] using this
   have g1:b1.1=Lib.tabData k z:=by
    have:=congrArg (·[1]?) hxs;simpa [hb1] using this
   obtain ⟨c0,q0⟩:=b0;obtain ⟨c1,q1⟩:=b1;dsimp only at g0 g1;subst g0 g1;exact ⟨by simpa using Lib.cells_of_tab he he2 hc2 hce hf0,by simpa using Lib.cells_of_tab he he2 hc2 hce hf1⟩
  ·cases h
theorem env_of {W:World} {l:List (String × DataW Unit)} (hL:laidMet Tryz.prog l W) (hf:(l.filter fun x=>x.1 == "internal/strconv.uint64pow10")=[("internal/strconv.uint64pow10",Lib.tabData .u64 Lib.pow10Tab)]) (hsh:W.ShapedOpen Tryz.prog):Env W where
 ml:=Go.Proofs.cell_of_shapedOpen_int (zero:=#[.int .i64 0]) (t:=3) hsh (of_decide_eq_true (by kernel_rfl)) (by kernel_rfl) rfl (by kernel_rfl) (by kernel_rfl) Tryz.underlying3
 tb:=by
  have h:=hL.filter fun x=>x.1 == "internal/strconv.uint64pow10";rw [hf] at h;exact Lib.tabIs_of_head (g:=3) (t:=250) (e:=144) (n:=20) (by kernel_rfl) (by kernel_rfl) Tryz.underlying250 Tryz.underlying144 (by kernel_rfl) (by kernel_rfl) h
theorem bar_of {W:World} {l:List (String × DataW Unit)} (hL:laidMet Tryz.prog l W) (hf:(l.filter fun x=>x.1 == "planisphere/frame.barred")=[("planisphere/frame.barred",.agg [Lib.tabData .i64 [58,64],Lib.tabData .i64 [91,96]])]):BarE W:=by
 have h:=hL.filter fun x=>x.1 == "planisphere/frame.barred";rw [hf] at h;obtain ⟨ps,⟨g',t',cs,fuel,p,q,hg',ht',hvar,hd,_,_⟩,_⟩:=h;have hg:Tryz.prog.globalNamed "planisphere/frame.barred" = some 0:=(by kernel_rfl);have hty:(Tryz.prog.globals[0]?).map (·.type)=some 179:=(by kernel_rfl);obtain rfl:=Option.some.inj (hg.symm.trans hg');obtain rfl:=Option.some.inj (hty.symm.trans ht');obtain ⟨e1,e2⟩:=cells_of_tab22 (e:=178) (e2:=3) Tryz.underlying179 Tryz.underlying178 Tryz.underlying3 (by kernel_rfl) (by kernel_rfl) (by kernel_rfl) hd
 have hc:∀ i,W.cell? ⟨0,i,none⟩=cs[i]?:=fun i=>by
  have h:=World.var?_cell hg hvar i;simpa using h
 have f0:=congrArg (·[0]?) e1;have f1:=congrArg (·[1]?) e1;have f2:=congrArg (·[0]?) e2;have f3:=congrArg (·[1]?) e2;simp [List.getElem?_drop] at f0 f1 f2 f3;exact ⟨(hc 0).trans f0,(hc 1).trans f1,(hc 2).trans f2,(hc 3).trans f3⟩
end Go.Proofs.YtcpofeehpijbcaaGreatDoor
import Derived.Test.YtcpofeehpijbcaaGreatDoorMg6
import Derived.Test.YtcpofeehpijbcaaGreatDoorFrT
import Derived.Test.YtcpofeehpijbcaaGreatDoorPa2
set_option maxRecDepth 100000
namespace Go.Proofs.YtcpofeehpijbcaaGreatDoor
open Go.ChangeShapes Go.WideShapes Go.ChangeAt Go.RowKit Go.Joins Go.Deep
section
variable {H:Type} {enc:TypeId × Value→H}
theorem card_at {W:World} : ∀ (cs:List Value) (n:Nat) (d:DataW H) (p:List MemPlace),cs.length=7→DataW.trod enc Tryz.prog W 0 (fun _=>true) true n 31 cs=some (d,p)→(∀ k∈d.weights Tryz.prog 31,k≤reachBytes)→∃ x,cs=CD.cells x∧OkY x∧x.o.length≤140737488351232:=by
 intro cs n d p hl hd hw
 match cs,hl with
 | [v0,v1,v2,v3,v4,v5,v6],_=>
  obtain ⟨xs,n2,_,hx,_,hlen,hf⟩:=DataW.trod_struct Tryz.underlying31 hd
  match xs,hlen with
  | [y0,y1,y2,y3,y4,y5,y6],_=>
   have h0:=hf 0 _ rfl;have h1:=hf 1 _ rfl;have h2:=hf 2 _ rfl;have h3:=hf 3 _ rfl;have h4:=hf 4 _ rfl;have h5:=hf 5 _ rfl;have h6:=hf 6 _ rfl;clear hf;simp only [Prod.mk.injEq] at hx;obtain ⟨rfl,_⟩:=hx;simp [show Tryz.prog.cellsOf 2 = 1 by kernel_rfl,show Tryz.prog.cellsOf 3 = 1 by kernel_rfl,show Tryz.prog.cellsOf 5 = 1 by kernel_rfl,show Tryz.prog.cellsOf 4 = 1 by kernel_rfl,show Tryz.prog.cellsOf 9 = 1 by kernel_rfl] at h0 h1 h2 h3 h4 h5 h6;obtain ⟨s0,e0,a0,l0⟩:=DataW.trod_string Tryz.underlying9 h0;obtain ⟨m1,e1,a1,w1⟩:=DataW.trod_int Tryz.underlying5 h1;obtain ⟨m2,e2,a2⟩:=DataW.trod_bool Tryz.underlying4 h2;obtain ⟨m3,e3,a3,w3⟩:=DataW.trod_int Tryz.underlying2 h3;obtain ⟨m4,e4,a4,w4⟩:=DataW.trod_int Tryz.underlying3 h4;obtain ⟨s5,e5,a5,l5⟩:=DataW.trod_string Tryz.underlying9 h5;obtain ⟨s6,e6,a6,l6⟩:=DataW.trod_string Tryz.underlying9 h6;simp only [List.cons.injEq,and_true] at e0 e1 e2 e3 e4 e5 e6;subst e0 e1 e2 e3 e4 e5 e6;subst a0 a1 a2 a3 a4 a5 a6;have n0:=hw (s0.data.toList.length) (by simp [DataW.weights,DataW.weightsEach,Tryz.underlying31]);have n5:=hw (s5.data.toList.length) (by simp [DataW.weights,DataW.weightsEach,Tryz.underlying31]);have n6:=hw (s6.data.toList.length) (by simp [DataW.weights,DataW.weightsEach,Tryz.underlying31]);have b1:=bounds_u8 w1;have b3:=bounds_i64 w3;have b4:=bounds_i64 w4;have:reachBytes=140737488351232:=rfl;obtain ⟨m,rfl⟩:∃ m:Nat,m1=(m:Int):=⟨m1.toNat,by omega⟩;exact ⟨⟨s0.data.toList,m,m2,m3,m4,s5.data.toList,s6.data.toList⟩,rfl,⟨⟨by show m≤255; omega,b3.1,b3.2,b4.1,b4.2,by show s0.data.toList.length≤_; omega,by show s5.data.toList.length≤_; omega,by show s6.data.toList.length≤_; omega⟩,by show s6.data.toList.length≤_; omega,by show s5.data.toList.length≤_; omega⟩,by show s6.data.toList.length≤_; omega⟩
theorem open_card {r:Reach} {b0:Nat} {W:World} {v:Value} {d:DataW H} {p:List MemPlace} (hv:Value.okWide Tryz.prog W r b0 31 v)
  (h:DataW.Trod enc Tryz.prog W 0 (fun _=>true) true 31 v d p) (hw:∀ n∈d.weights Tryz.prog 31,n≤reachBytes) :
  ∃ x:CD,v=.agg #[.string ⟨x.k.toArray⟩,.int .u8 x.kd,.bool x.y,.int .i64 x.n,.int .i64 x.e,.string ⟨x.t.toArray⟩,.string ⟨x.o.toArray⟩]∧OkY x∧x.o.length≤140737488351232:=by
 obtain ⟨cs,rfl,hsz⟩:=okWide_struct Tryz.underlying31 hv;obtain ⟨l⟩:=cs;obtain ⟨fuel,hf⟩:=h;obtain ⟨x,rfl,hx⟩:=card_at l fuel d p (hsz.trans (show Tryz.prog.cellsOf 31 = 7 by kernel_rfl)) hf hw;exact ⟨x,rfl,hx⟩
theorem open_cardsT {r:Reach} {b0:Nat} {W:World} {v:Value} {d:DataW H} {p:List MemPlace} (hv:Value.okWide Tryz.prog W r b0 22 v)
  (h:DataW.Trod enc Tryz.prog W 0 (fun _=>true) true 22 v d p) (hw:∀ n∈d.weights Tryz.prog 22,n≤reachBytes) :
  ∃ (A:Option Addr) (cs:List CD) (c:Nat),v=.slice A cs.length c∧SlY W W.heap.size A cs c:=by
 obtain ⟨a,n,c,rfl⟩:=okWide_slice Tryz.underlying22 hv;obtain ⟨fuel,hf⟩:=h;exact open_cards (y:=(d,p)) hf hw
end
theorem iface_of_trod {H:Type} {enc:TypeId × Value→H} {w:World} {base:Nat} {sp:Nat→Bool} {held:Bool} {fuel:Nat} {t:TypeId} {ms} {cs:List Value} {nm:String} {d:DataW H} {p:List MemPlace}
  (ht:Tryz.prog.underlying t=some (.interface ms)) (h:DataW.trod enc Tryz.prog w base sp held fuel t cs=some (.iface nm d,p)):∃ u v,cs=[.iface u v]:=by
 cases fuel with
 | zero=>simp [DataW.trod] at h
 | succ fuel=>
  simp only [DataW.trod,ht] at h;split at h <;> first | exact ⟨_,_,rfl⟩ | (simp at h; done) | skip
  all_goals simp_all
theorem es_of {W:World} {l:List (String × DataW Unit)} (hL:laidMet Tryz.prog l W) {nm:String} {d:DataW Unit} (hf:(l.filter fun x=>x.1 == "strconv.ErrSyntax")=[("strconv.ErrSyntax",.iface nm d)]):errV W 8:=by
 have h:=hL.filter fun x=>x.1 == "strconv.ErrSyntax";rw [hf] at h;obtain ⟨ps,⟨g',t',cs,fuel,p,q,hg',ht',hvar,hd,_,_⟩,_⟩:=h;have hg:Tryz.prog.globalNamed "strconv.ErrSyntax" = some 8:=(by kernel_rfl);have hty:(Tryz.prog.globals[8]?).map (·.type)=some 116:=(by kernel_rfl);obtain rfl:=Option.some.inj (hg.symm.trans hg');obtain rfl:=Option.some.inj (hty.symm.trans ht');obtain ⟨u,v,hc⟩:=iface_of_trod Tryz.underlying116 hd;have h0:=World.var?_cell hg hvar 0
 have h1:cs[0]? = some (.iface u v):=by
  have:=congrArg (·[0]?) hc;simpa using this
 exact ⟨.iface u v,by simpa [h1] using h0,.inr ⟨u,v,rfl⟩⟩
theorem er_of {W:World} {l:List (String × DataW Unit)} (hL:laidMet Tryz.prog l W) {nm:String} {d:DataW Unit} (hf:(l.filter fun x=>x.1 == "strconv.ErrRange")=[("strconv.ErrRange",.iface nm d)]):errV W 9:=by
 have h:=hL.filter fun x=>x.1 == "strconv.ErrRange";rw [hf] at h;obtain ⟨ps,⟨g',t',cs,fuel,p,q,hg',ht',hvar,hd,_,_⟩,_⟩:=h;have hg:Tryz.prog.globalNamed "strconv.ErrRange" = some 9:=(by kernel_rfl);have hty:(Tryz.prog.globals[9]?).map (·.type)=some 116:=(by kernel_rfl);obtain rfl:=Option.some.inj (hg.symm.trans hg');obtain rfl:=Option.some.inj (hty.symm.trans ht');obtain ⟨u,v,hc⟩:=iface_of_trod Tryz.underlying116 hd;have h0:=World.var?_cell hg hvar 0
 have h1:cs[0]? = some (.iface u v):=by
  have:=congrArg (·[0]?) hc;simpa using this
 exact ⟨.iface u v,by simpa [h1] using h0,.inr ⟨u,v,rfl⟩⟩
theorem envP_of {W:World} {l:List (String × DataW Unit)} (hL:laidMet Tryz.prog l W) (hE:Env W) (h1:(l.filter fun x=>x.1 == "strconv.ErrSyntax")=[("strconv.ErrSyntax",.iface "*errors.errorString" (.ptr (.agg [.lit (.string [105,110,118,97,108,105,100,32,115,121,110,116,97,120])])))]) (h2:(l.filter fun x=>x.1 == "strconv.ErrRange")=[("strconv.ErrRange",.iface "*errors.errorString" (.ptr (.agg [.lit (.string [118,97,108,117,101,32,111,117,116,32,111,102,32,114,97,110,103,101])])))]):EnvP W:=⟨hE,es_of hL h1,er_of hL h2⟩
end Go.Proofs.YtcpofeehpijbcaaGreatDoor
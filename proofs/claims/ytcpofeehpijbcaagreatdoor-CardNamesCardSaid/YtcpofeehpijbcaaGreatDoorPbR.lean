import Derived.Test.YtcpofeehpijbcaaGreatDoorMg6
import Derived.Test.YtcpofeehpijbcaaGreatDoorPa2
namespace Go.Proofs.YtcpofeehpijbcaaGreatDoor
open Go.ChangeShapes Go.WideShapes Go.ChangeAt Go.RowKit Go.Joins Go.Deep
section
variable {H:Type} {enc:TypeId × Value→H}
end
theorem iface_of_trod {H:Type} {enc:TypeId × Value→H} {w:World} {base:Nat} {sp:Nat→Bool} {held:Bool} {fuel:Nat} {t:TypeId} {ms} {cs:List Value} {nm:String} {d:DataW H} {p:List MemPlace}
  (ht:Tryz.prog.underlying t=some (.interface ms)) (h:DataW.trod enc Tryz.prog w base sp held fuel t cs=some (.iface nm d,p)):∃ u v,cs=[.iface u v]:=by
 cases fuel with
 | zero=>simp [DataW.trod] at h
 | succ fuel=>
  simp only [DataW.trod,ht] at h;split at h <;> first | exact ⟨_,_,rfl⟩ | (simp at h; done) | skip
  all_goals simp_all
theorem es_of {W:World} {l:List (String × DataW Unit)} (hL:laidMet Tryz.prog l W) {nm:String} {d:DataW Unit} (hf:(l.filter fun x=>x.1 == "strconv.ErrSyntax")=[("strconv.ErrSyntax",.iface nm d)]):errV W 8:=by
 have h:=hL.filter fun x=>x.1 == "strconv.ErrSyntax";rw [hf] at h;obtain ⟨ps,⟨g',t',cs,fuel,p,q,hg',ht',hvar,hd,_,_⟩,_⟩:=h;have hg:Tryz.prog.globalNamed "strconv.ErrSyntax" = some 8:=(by kernel_rfl);have hty:(Tryz.prog.globals[8]?).map (·.type)=some 116:=(by kernel_rfl);obtain rfl:=Option.some.inj (hg.symm.trans hg');obtain rfl:=Option.some.inj (hty.symm.trans ht');obtain ⟨u,v,hc⟩:=iface_of_trod Tryz.underlying116 hd;have h0:=World.var?_cell hg hvar 0
 have h1:cs[0]? = some (.iface u v):=by
  have:=congrArg (·[0]?) hc;simpa using this
 exact ⟨.iface u v,by simpa [h1] using h0,.inr ⟨u,v,rfl⟩⟩
theorem er_of {W:World} {l:List (String × DataW Unit)} (hL:laidMet Tryz.prog l W) {nm:String} {d:DataW Unit} (hf:(l.filter fun x=>x.1 == "strconv.ErrRange")=[("strconv.ErrRange",.iface nm d)]):errV W 9:=by
 have h:=hL.filter fun x=>x.1 == "strconv.ErrRange";rw [hf] at h;obtain ⟨ps,⟨g',t',cs,fuel,p,q,hg',ht',hvar,hd,_,_⟩,_⟩:=h;have hg:Tryz.prog.globalNamed "strconv.ErrRange" = some 9:=(by kernel_rfl);have hty:(Tryz.prog.globals[9]?).map (·.type)=some 116:=(by kernel_rfl);obtain rfl:=Option.some.inj (hg.symm.trans hg');obtain rfl:=Option.some.inj (hty.symm.trans ht');obtain ⟨u,v,hc⟩:=iface_of_trod Tryz.underlying116 hd;have h0:=World.var?_cell hg hvar 0
 have h1:cs[0]? = some (.iface u v):=by
  have:=congrArg (·[0]?) hc;simpa using this
 exact ⟨.iface u v,by simpa [h1] using h0,.inr ⟨u,v,rfl⟩⟩
theorem envP_of {W:World} {l:List (String × DataW Unit)} (hL:laidMet Tryz.prog l W) (hE:Env W) (h1:(l.filter fun x=>x.1 == "strconv.ErrSyntax")=[("strconv.ErrSyntax",.iface "*errors.errorString" (.ptr (.agg [.lit (.string [105,110,118,97,108,105,100,32,115,121,110,116,97,120])])))]) (h2:(l.filter fun x=>x.1 == "strconv.ErrRange")=[("strconv.ErrRange",.iface "*errors.errorString" (.ptr (.agg [.lit (.string [118,97,108,117,101,32,111,117,116,32,111,102,32,114,97,110,103,101])])))]):EnvP W:=⟨hE,es_of hL h1,er_of hL h2⟩
end Go.Proofs.YtcpofeehpijbcaaGreatDoor
import Derived.Test.YtghallnooijfhaaGreatMg9
namespace Go.Proofs.YtghallnooijfhaaGreat
open Go.RowKit
theorem term_bd {l:List Int} (h:q2d l=true) (k:Nat) : -1125899906842624≤l.getD k 0∧l.getD k 0≤1125899906842624:=by
 obtain ⟨h1,h2⟩:=cf_bd h k;unfold cfQ at h1 h2;have e1:(((-1125899906842624:Int)):Rat)≤((l.getD k 0:Int):Rat):=h1;have e2:((l.getD k 0:Int):Rat)≤(((1125899906842624:Int)):Rat):=h2;exact ⟨Rat.intCast_le_intCast.1 e1,Rat.intCast_le_intCast.1 e2⟩
end Go.Proofs.YtghallnooijfhaaGreat
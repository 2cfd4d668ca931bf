import Derived.Test.YtmepgfigcdeklaaGreatW1
import Derived.Maps.Own
import Derived.Maps.Views
namespace Go.Proofs.YtmepgfigcdeklaaGreat
open Go.RowKit Go.Maps
theorem str_keyed:Keyed Tryz.prog 9:=string_keyed Tryz.underlying9
theorem zero_bool (w:World):(zeroValue 4).run Tryz.prog w=.ok (.bool false) w:=by kernel_rfl
theorem plainBool_inv {e:TypeId} (he:Tryz.prog.underlying e=some .bool) {v:Value} {z:DataW Unit × List MemPlace} (h:plainElem Tryz.prog e v=some z):∃ x,v=.bool x∧z=(.lit (.bool x),[]):=by
 unfold plainElem at h;rw [he] at h;cases v <;> simp at h
 exact ⟨_,rfl,h.symm⟩
def Seen (w:World) (b n:Nat) (f:List UInt8→Bool):Prop:=
 ∃ D:DataW Unit,w.ownsMap Tryz.prog 9 (plainElem Tryz.prog 4) b n D∧IsMap D∧∀ s:List UInt8,D.atKey (.string s) (.lit (.bool false))=.lit (.bool (f s))
theorem Seen.made (w:World):Seen (w.alloc (.map #[] 0)) w.heap.size 0 (fun _=>false):=
 ⟨.map [],World.ownsMap_made _ _ _ _,isMap_empty,fun _=>rfl⟩
section
variable {w w':World} {b n:Nat} {f:List UInt8→Bool}
theorem Seen.lt (h:Seen w b n f):b < w.heap.size:=by obtain ⟨D,h1,_⟩:=h; exact h1.lt
theorem Seen.keep (h:Seen w b n f) (hb:Below w.heap.size w w'):Seen w' b n f:=by
 have hl:=h.lt;obtain ⟨D,⟨es,clock,h1,r⟩,h2,h3⟩:=h;exact ⟨D,⟨es,clock,(hb.block b hl).trans h1,r⟩,h2,h3⟩
theorem Seen.cong (h:Seen w b n f) {g:List UInt8→Bool} (e:∀ s,f s=g s):Seen w b n g:=by
 obtain ⟨D,h1,h2,h3⟩:=h;exact ⟨D,h1,h2,fun s=>by rw [h3,e]⟩
theorem Seen.look (h:Seen w b n f) (s:List UInt8) (hs:s.length≤140737488355328):(Instr.lookup 87 (.map (some b)) (.string ⟨s.toArray⟩) false).run Tryz.prog w=.ok (.bool (f s)) w:=by
 obtain ⟨D,h1,h2,h3⟩:=h;have hk:keyOf Tryz.prog 9 (.string ⟨s.toArray⟩)=some (.string s):=WideMaps.keyOf_string_mk Tryz.underlying9 (by show s.toArray.size≤maxLen; simp; unfold maxLen; omega);obtain ⟨v,ps,hrun,hv⟩:=h1.lookup str_keyed Tryz.underlying87 (zero_bool w) (plainElem_bool Tryz.underlying4 false) hk;obtain ⟨x,rfl,hx⟩:=plainBool_inv Tryz.underlying4 hv;rw [h3 s] at hx;simp only [Prod.mk.injEq,DataW.lit.injEq,Lit.bool.injEq] at hx;rw [hrun,hx.1]
theorem Seen.store (h:Seen w b n f) (s:List UInt8) (hs:s.length≤140737488355328) (hn:n≤1000):∃ w',(Instr.mapUpdate 87 (.map (some b)) (.string ⟨s.toArray⟩) (.bool true)).run Tryz.prog w=.ok () w' ∧
  Seen w' b (n+1) (fun t=>f t || decide (s=t))∧w.grownBy w' (some b):=by
 obtain ⟨D,h1,h2,h3⟩:=h;have hk:keyOf Tryz.prog 9 (.string ⟨s.toArray⟩)=some (.string s):=WideMaps.keyOf_string_mk Tryz.underlying9 (by show s.toArray.size≤maxLen; simp; unfold maxLen; omega);obtain ⟨w',hrun,o,g⟩:=h1.update str_keyed Tryz.underlying87 (by unfold maxLen; omega) hk (plainElem_bool Tryz.underlying4 true);refine ⟨w',hrun,⟨_,o,h2.put _ _,fun t=>?_⟩,g⟩;by_cases e:t=s
 ·subst e;rw [atKey_put_same h2 (show WideAt.IsKeyLit (.string t) from trivial)];show DataW.lit (.bool true)=.lit (.bool (f t || decide (t=t)))
  rw [decide_eq_true rfl,Bool.or_true]
 ·rw [atKey_put_other (by simpa using e),h3];show DataW.lit (.bool (f t))=.lit (.bool (f t || decide (s=t)))
  rw [decide_eq_false (fun h:s=t=>e h.symm),Bool.or_false]
end
end Go.Proofs.YtmepgfigcdeklaaGreat
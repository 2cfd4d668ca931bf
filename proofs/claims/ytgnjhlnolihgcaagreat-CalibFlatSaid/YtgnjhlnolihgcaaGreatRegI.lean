import Derived.Test.YtgnjhlnolihgcaaGreatRegT
namespace Go.Proofs.YtgnjhlnolihgcaaGreat
open Go
section
variable {P:Program} {ops:Array Oper} {Q:Exit→Act→World→Prop}
def unl (m:Nat) (listed:Array Bool):Nat:=(List.range m).countP fun j=>!(listed.getD j true)
theorem unl_set {m i:Nat} {listed:Array Bool} (hi:i < m) (h:listed.getD i true=false):unl m (listed.setIfInBounds i true)+1=unl m listed:=by
 have hsz:i < listed.size:=by
  rcases Nat.lt_or_ge i listed.size with h' | h'
  ·exact h'
  ·rw [Array.getD_eq_getD_getElem?,Array.getElem?_eq_none h'] at h; simp at h
 unfold unl
 induction m with
 | zero=>omega
 | succ m ih=>
  rw [List.range_succ,List.countP_append,List.countP_append];by_cases him:i=m
  ·subst him
   have e:(List.range i).countP (fun j=>!((listed.setIfInBounds i true).getD j true))=(List.range i).countP fun j=>!(listed.getD j true):=by
    refine List.countP_congr fun j hj=>?_;rw [Go.getD_set_ne true (by have:=List.mem_range.1 hj; omega)]
   rw [e];have e2:(listed.setIfInBounds i true).getD i true=true:=(by simp [hsz]);simp only [List.countP_cons,List.countP_nil,e2,h,Bool.not_true,Bool.not_false];simp
  ·have:=ih (by omega);have e2:(listed.setIfInBounds i true).getD m true=listed.getD m true:=Go.getD_set_ne true him;simp only [List.countP_cons,List.countP_nil,e2];omega
theorem unl_zero {m:Nat} {listed:Array Bool} (h:unl m listed=0):∀ j,j < m→listed.getD j true=true:=by
 intro j hj;unfold unl at h;rw [List.countP_eq_zero] at h;have:=h j (List.mem_range.2 hj);simpa using this
def orderB (ops:Array Oper):Bool:=(List.range ops.size).all fun j=>match ops[j]? with | some o=>o.after.all fun e=>!(Region.binds .any e) || decide (e.on < j) | none=>true
theorem none_ready {listed:Array Bool} (ho:orderB ops=true) (hs:listed.size=ops.size) (h:Region.ready .any ops listed=[]):∀ j,j < ops.size→listed.getD j true=true:=by
 intro j
 induction j using Nat.strongRecOn with
 | _ j ih=>
  intro hj
  cases hl:listed.getD j true with
  | true=>rfl
  | false=>
   exfalso
   have hr:j∈Region.ready .any ops listed:=by
    refine mem_ready.2 ⟨hl,ops[j],Array.getElem?_eq_getElem hj,fun e he hb=>?_⟩;have q:=List.all_eq_true.1 ho j (List.mem_range.2 hj);rw [Array.getElem?_eq_getElem hj] at q;have q2:=Array.all_eq_true_iff_forall_mem.1 q e he;simp only [hb,Bool.not_true,Bool.false_or,decide_eq_true_eq] at q2;have q3:=ih e.on q2 (by omega);have hsz:e.on < listed.size:=(by omega);simpa [hsz] using q3
   rw [h] at hr;cases hr
theorem getD_tf {listed:Array Bool} {m j:Nat} (hs:listed.size=m) (hj:j < m) (h:listed.getD j true=true):listed.getD j false=true:=by
 have:j < listed.size:=(by omega);simpa [this] using h
theorem dep_of {listed:Array Bool} {i d:Nat} (hw:Region.waitsFor .any ops i d=true) {o:Oper} (hi:ops[i]? = some o) (hd:∀ e∈o.after,Region.binds .any e=true→listed.getD e.on false=true):listed.getD d false=true:=by
 obtain ⟨oj,hj,e,he,hb,hon⟩:=Region.waitsFor_spec hw;rw [hi] at hj;cases hj
 rw [← hon];exact hd e he hb
theorem wpAnyI (Inv:Array Bool→Act→World→Prop) (ho:orderB ops=true)
  (hstep:∀ listed a w,Inv listed a w→∀ i o,ops[i]? = some o→listed.getD i true=false→(∀ e∈o.after,Region.binds .any e=true→listed.getD e.on false=true)→wpOp P ops Q i (fun a' w'=>Inv (listed.setIfInBounds i true) a' w') a w)
  (hend:∀ listed a w,Inv listed a w→(∀ j,j < ops.size→listed.getD j false=true)→Q .normal a w) :
  ∀ (f:Nat) (listed:Array Bool) (a:Act) (w:World),listed.size=ops.size→unl ops.size listed≤f→Inv listed a w→wpAny P .any ops Q f listed a w
 | 0,listed,a,w,hs,hu,hI=>by
  have hall:=unl_zero (m:=ops.size) (listed:=listed) (by omega);refine ⟨?_,hend _ _ _ hI fun j hj=>getD_tf hs hj (hall j hj)⟩;refine List.eq_nil_iff_forall_not_mem.2 fun j hj=>?_;obtain ⟨h1,o,h2,-⟩:=mem_ready.1 hj;rw [hall j (Array.getElem?_eq_some_iff.1 h2).1] at h1;cases h1
 | f+1,listed,a,w,hs,hu,hI=>by
  refine ⟨fun h=>hend _ _ _ hI fun j hj=>getD_tf hs hj (none_ready ho hs h j hj),fun i hi=>?_⟩;obtain ⟨h1,o,h2,h3⟩:=mem_ready.1 hi;have hi':=(Array.getElem?_eq_some_iff.1 h2).1;refine wpOp_mono (fun a' w' h=>wpAnyI Inv ho hstep hend f _ a' w' (by simp [hs]) (by have:=unl_set hi' h1; omega) h) (hstep _ _ _ hI i o h2 h1 h3)
theorem wp_region_I {id:Nat} {a:Act} {w:World} (hm:P.follows .mixedOrders=true) (ho:orderB ops=true) (Inv:Array Bool→Act→World→Prop) (h0:Inv (Array.replicate ops.size false) a w.drew)
  (hstep:∀ listed a w,Inv listed a w→∀ i o,ops[i]? = some o→listed.getD i true=false→(∀ e∈o.after,Region.binds .any e=true→listed.getD e.on false=true)→wpOp P ops Q i (fun a' w'=>Inv (listed.setIfInBounds i true) a' w') a w)
  (hend:∀ listed a w,Inv listed a w→(∀ j,j < ops.size→listed.getD j false=true)→Q .normal a w):(Code.region id ops true).wp P Q a w:=by
 refine wp_region_any hm (wpAnyI Inv ho hstep hend _ _ _ _ (by simp) ?_ h0);unfold unl;refine Nat.le_trans (List.countP_le_length) (by simp)
theorem q0t {i:Nat} {o:Oper} {K:Act→World→Prop} {a:Act} {w:World} (ho:ops[i]? = some o)
  (h:∀ K':Act→World→Prop,Shut (∀ a w,K a w→K' a w)→if Region.wanted o (yielded ops a.tmps)=true then Oper.wp P o a w K' Q else K' (a.put o.dst undef) w):wpOp P ops Q i K a w:=
 wpOp_step ho fun K' hK=>h K' hK
theorem put_getD (a:Act) (s:Nat):a.put (some s) (a.tmps.getD s undef)=a:=by
 unfold Act.put
 have h:a.tmps.setIfInBounds s (a.tmps.getD s undef)=a.tmps:=by
  apply Array.ext_getElem?
  intro j;rw [Array.getElem?_setIfInBounds];split
  ·next e=>
   subst e;split
   ·next hs=>rw [Array.getElem?_eq_getElem hs]; rfl
   ·next hs=>rw [Array.getElem?_eq_none (by omega)]
  ·rfl
 simp only [h]
theorem wp_region_I' {id:Nat} {a:Act} {w:World} (hm:P.follows .mixedOrders=true) (ho:orderB ops=true) (Inv:Act→Array Bool→Act→World→Prop) (h0:∀ a0,Inv a0 (Array.replicate ops.size false) a0 w.drew)
  (hstep:∀ listed a' w',Inv a listed a' w'→∀ i o,ops[i]? = some o→listed.getD i true=false→(∀ e∈o.after,Region.binds .any e=true→listed.getD e.on false=true)→wpOp P ops Q i (fun a' w'=>Inv a (listed.setIfInBounds i true) a' w') a' w')
  (hend:∀ listed a' w',Inv a listed a' w'→(∀ j,j < ops.size→listed.getD j false=true)→Q .normal a' w'):(Code.region id ops true).wp P Q a w:=wp_region_I hm ho (Inv a) (h0 a) hstep hend
end
theorem gn {l : Array Bool} {i j : Nat} (h : (l.setIfInBounds i true).getD j false = true) (hij : i ≠ j := by decide) : l.getD j false = true := by rwa [Go.getD_set_ne false hij] at h
theorem gs {l : Array Bool} {i j : Nat} (h : l.getD j false = true) (hij : i ≠ j := by decide) : (l.setIfInBounds i true).getD j false = true := by rwa [Go.getD_set_ne false hij]
theorem g0 {m j : Nat} {P : Prop} (h : (Array.replicate m false).getD j false = true) : P := by rw [getD_replicate_false] at h; cases h
theorem tk {P : Program} {ops : Array Oper} {Q : Exit → Act → World → Prop} {md : Region.Mode} {S : World → Prop} {oi : Oper} {fuel : Nat} {listed : Array Bool} {a : Act} {w : World} (i : Nat) (v : Value) (hi : ops[i]? = some oi)
    (h : wpAnyH P md ops Q S fuel (listed.setIfInBounds i true) (a.put oi.dst v) w) (hs : Region.noSelect ops = true := by kernel_rfl) (hf : Region.free md ops listed i = true := by kernel_rfl) (hr : (Region.ready md ops listed).contains i = true := by kernel_rfl)
    (hy : YieldsIf P ops S oi v a := by exact Or.inl ⟨by rfl, by intro w hSw; (try dsimp only at hSw); go_simp⟩) (hS : S w := by assumption) (hQ : ∀ c a w, Q (.panic c) (a.put oi.dst v) w → Q (.panic c) a w := by exact fun _ _ _ h => h) : wpAnyH P md ops Q S (fuel + 1) listed a w :=
  wpAnyH_take hi hs hf hr hQ hy hS h
end Go.Proofs.YtgnjhlnolihgcaaGreat
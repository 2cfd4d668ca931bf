import Derived.StillTail
import Derived.OrdersHeld
import Derived.Deep.RegionHeld
namespace Go.Proofs.YtgnjhlnolihgcaaGreat
open Go
section
variable {P:Program} {ops:Array Oper} {Q:Exit→Act→World→Prop} {md:Region.Mode} {S:World→Prop} {n:Nat} {L:Array Bool→Act→World→Prop}
def wpHT (P:Program) (md:Region.Mode) (ops:Array Oper) (Q:Exit→Act→World→Prop) (S:World→Prop) (n:Nat) (L:Array Bool→Act→World→Prop):Nat→Array Bool→Act→World→Prop
 | 0,listed,a,w=>L listed a w
 | f+1,listed,a,w=>Region.ready md ops listed≠[]∧∀ i∈Region.ready md ops listed,i < n∧wpOp P ops Q i (fun a' w'=>S w'∧wpHT P md ops Q S n L f (listed.setIfInBounds i true) a' w') a w
theorem wpAny_of_HT {g:Nat} (hL:∀ listed a w,L listed a w→wpAny P md ops Q g listed a w):∀ (f:Nat) (listed:Array Bool) (a:Act) (w:World),wpHT P md ops Q S n L f listed a w→wpAny P md ops Q (f+g) listed a w
 | 0,listed,a,w,h=>by rw [Nat.zero_add]; exact hL _ _ _ h
 | f+1,listed,a,w,h=>by
  rw [show f+1+g=(f+g)+1 by omega];exact ⟨fun h0=>absurd h0 h.1,fun i hi=>wpOp_mono (fun a' w' h'=>wpAny_of_HT hL f _ a' w' h'.2) (h.2 i hi).2⟩
theorem wpHT_first {i:Nat} {oi:Oper} {v:Value} (hi:ops[i]? = some oi) (hsel:∀ (j:Nat) (o:Oper) cs b,ops[j]? = some o→o.op≠.select cs b)
  (hQ:∀ c a w,Q (.panic c) (a.put oi.dst v) w→Q (.panic c) a w) (hs:Region.sinkB md ops n=true) (hc:Region.chainB md ops n=true) (hn:n < ops.size) (hin:i < n)
  (hdone:∀ listed a w,L listed a w→∀ j∈Region.ready md ops listed,n≤j) :
  ∀ (f:Nat) (listed:Array Bool) (a:Act) (w:World),HeadInv md ops n listed →
   (∀ j oj,ops[j]? = some oj→j≠i→listed.getD j true=false→(∀ e∈oj.after,Region.binds md e=true→e.on≠i)→oi.apart ops oj=true) →
   i∈Region.ready md ops listed→YieldsIf P ops S oi v a→S w →
   wpHT P md ops Q S n L f (listed.setIfInBounds i true) (a.put oi.dst v) w→wpHT P md ops Q S n L (f+1) listed a w:=by
 intro f
 induction f with
 | zero=>
  intro listed a w inv _ hr hy hS H;have hun:=(mem_ready.1 hr).1;refine ⟨fun h=>(by rw [h] at hr; cases hr),fun j hj=>?_⟩
  have hjn:j < n:=by
   rcases Nat.lt_or_ge j n with h | h
   ·exact h
   ·exact absurd hj (tail_waits hs hc hn inv _ i rfl hin hun j h)
  by_cases hji:j=i
  ·subst hji; exact ⟨hjn,hy.wpOp hi hS ⟨hS,H⟩⟩
  ·have:=hdone _ _ _ H j (ready_mono hj hji);omega
 | succ f ih=>
  intro listed a w inv hfree hr hy hS H;have hun:=(mem_ready.1 hr).1;refine ⟨fun h=>(by rw [h] at hr; cases hr),fun j hj=>?_⟩
  have hjn:j < n:=by
   rcases Nat.lt_or_ge j n with h | h
   ·exact h
   ·exact absurd hj (tail_waits hs hc hn inv _ i rfl hin hun j h)
  refine ⟨hjn,?_⟩;by_cases hji:j=i
  ·subst hji; exact hy.wpOp hi hS ⟨hS,H⟩
  ·have h1:=(H.2 j (ready_mono hj hji)).2;obtain ⟨hjun,oj,hoj,hall⟩:=mem_ready.1 hj
   have hnot:∀ e∈oj.after,Region.binds md e=true→e.on≠i:=fun e he hb heq=>by
    have h2:=hall e he hb;rw [heq,getD_both hun] at h2;cases h2
   have h2:=wpOp_putIf hoj (hfree j oj hoj hji hjun hnot) (fun cs b=>hsel i oi cs b hi) (fun cs b=>hsel j oj cs b hoj) hQ hy h1;refine wpOp_mono (fun a' w' h3=>⟨h3.2.1,ih (listed.setIfInBounds j true) a' w' (inv.set hj hjn) (fun k ok hk hki hku hno=>?_) (ready_mono hr (Ne.symm hji)) h3.1 h3.2.1 ?_⟩) h2
   ·refine hfree k ok hk hki ?_ hno;by_cases hjk:j=k
    ·subst hjk; exact hjun
    ·rw [Go.getD_set_ne true hjk] at hku; exact hku
   ·rw [Array.setIfInBounds_comm _ _ hji];exact h3.2.2
def headB (md:Region.Mode) (ops:Array Oper) (n:Nat) (listed:Array Bool):Bool:=
 decide (listed.size=ops.size) && ((List.range ops.size).all fun j=>!(listed.getD j false) || (match ops[j]? with | some oj=>oj.after.all fun e=>!(Region.binds md e) || listed.getD e.on false | none=>true)) &&
  (List.range ops.size).all fun t=>decide (t < n) || !(listed.getD t true)
theorem headB_spec {listed:Array Bool} (h:headB md ops n listed=true):HeadInv md ops n listed:=by
 simp only [headB,Bool.and_eq_true,decide_eq_true_eq] at h;obtain ⟨⟨h1,h2⟩,h3⟩:=h;refine ⟨h1,fun j oj hj hl e he hb=>?_,fun t ht htn=>?_⟩
 ·have hjs:=(Array.getElem?_eq_some_iff.1 hj).1;have q:=List.all_eq_true.1 h2 j (List.mem_range.2 hjs);simp only [hl,hj,Bool.not_true,Bool.false_or] at q;have q2:=Array.all_eq_true_iff_forall_mem.1 q e he;simpa [hb] using q2
 ·have q:=List.all_eq_true.1 h3 t (List.mem_range.2 htn);simp only [Bool.or_eq_true,decide_eq_true_eq,Bool.not_eq_true'] at q;rcases q with q | q
  ·omega
  ·exact q
def TailL (P:Program) (l:List Oper) (Q:Exit→Act→World→Prop) (n:Nat):Array Bool→Act→World→Prop:=fun listed a w=>
 Region.seqB .any l.toArray (l.length - n) n listed=true∧wpList P l.toArray Q (l.drop n) a w
def tailB (l:List Oper) (n:Nat):Bool:=Region.noSelect l.toArray && decide (n < l.length) && Region.sinkB .any l.toArray n && Region.chainB .any l.toArray n
variable {l:List Oper}
theorem q1d {i:Nat} {oi:Oper} {v:Value} {f:Nat} {listed:Array Bool} {a:Act} {w:World} (hi:l.toArray[i]? = some oi) (ht:tailB l n=true) (hin:decide (i < n)=true) (hb:headB .any l.toArray n listed=true)
  (hf:Region.free .any l.toArray listed i=true) (hr:(Region.ready .any l.toArray listed).contains i=true) (hQ:∀ c a w,Q (.panic c) (a.put oi.dst v) w→Q (.panic c) a w) (hy:YieldsIf P l.toArray S oi v a) (hS:S w)
  (h:wpHT P .any l.toArray Q S n (TailL P l Q n) f (listed.setIfInBounds i true) (a.put oi.dst v) w):wpHT P .any l.toArray Q S n (TailL P l Q n) (f+1) listed a w:=by
 simp only [tailB,Bool.and_eq_true,decide_eq_true_eq] at ht;obtain ⟨⟨⟨h1,h2⟩,h3⟩,h4⟩:=ht;exact wpHT_first hi (Region.noSelect_spec h1) hQ h3 h4 (by simpa using h2) (of_decide_eq_true hin) (fun listed a w hL=>seqB_ready hL.1) f listed a w (headB_spec hb) (Region.free_spec hi hf) (by simpa using hr) hy hS h
def HTready (P:Program) (ops:Array Oper) (Q:Exit→Act→World→Prop) (S:World→Prop) (n:Nat) (L:Array Bool→Act→World→Prop) (f:Nat) (listed:Array Bool) (a:Act) (w:World) (rs:List Nat):Prop:=
 ∀ i∈rs,i < n∧wpOp P ops Q i (fun a' w'=>S w'∧wpHT P .any ops Q S n L f (listed.setIfInBounds i true) a' w') a w
theorem HTready.nil {f:Nat} {listed:Array Bool} {a:Act} {w:World} : HTready P ops Q S n L f listed a w []:=fun _ h=>by cases h
theorem HTready.cons {f:Nat} {listed:Array Bool} {a:Act} {w:World} {i:Nat} {o:Oper} {rs:List Nat} (ho:ops[i]? = some o) (hin:decide (i < n)=true)
  (h:∀ K':Act→World→Prop,Shut (∀ a w,S w→(S w→wpHT P .any ops Q S n L f (listed.setIfInBounds i true) a w)→K' a w)→if Region.wanted o (yielded ops a.tmps)=true then Oper.wp P o a w K' Q else K' (a.put o.dst undef) w)
  (hs:HTready P ops Q S n L f listed a w rs):HTready P ops Q S n L f listed a w (i :: rs):=fun j hj=>by
 rcases List.mem_cons.1 hj with rfl | hj
 ·exact ⟨of_decide_eq_true hin,wpOp_step ho (fun K' hK=>h K' (fun a w hS hW=>hK a w ⟨hS,hW hS⟩))⟩
 ·exact hs j hj
theorem wpHT_ready {rs:List Nat} {f:Nat} {listed:Array Bool} {a:Act} {w:World} (hr:Region.ready .any ops listed=rs) (hne:rs≠[]) (h:HTready P ops Q S n L f listed a w rs):wpHT P .any ops Q S n L (f+1) listed a w:=
 ⟨by rw [hr]; exact hne,by rw [hr]; exact h⟩
theorem wp_region_HT {id:Nat} {a:Act} {w:World} (n:Nat) (hm:P.follows .mixedOrders=true) (hB:tailB l n=true) (hS:S w.drew)
  (h:S w.drew→wpHT P .any l.toArray Q S n (TailL P l Q n) n (Array.replicate l.toArray.size false) a w.drew):(Code.region id l.toArray true).wp P Q a w:=by
 simp only [tailB,Bool.and_eq_true,decide_eq_true_eq] at hB;have hn:=hB.1.1.2;refine wp_region_any hm ?_;have hdl:(l.drop n).length=l.length - n:=by simp
 have:=wpAny_of_HT (g:=l.length - n) (fun listed a' w' hL=>by
  have q:=wpAny_of_seq (md:=.any) (Q':=Q) (l.drop n) n listed a' w' (fun j=>by simp [List.getElem?_drop]) (by rw [hdl]; exact hL.1) hL.2;rwa [hdl] at q) _ _ _ _ (h hS)
 rwa [show n+(l.length - n)=l.toArray.size by simp; omega] at this
end
end Go.Proofs.YtgnjhlnolihgcaaGreat
import Derived.Test.YtcpofeehpijbcaaGreatDoorMg10
import Derived.Test.YtcpofeehpijbcaaGreatDoorMemV
namespace Go.Proofs.YtcpofeehpijbcaaGreatDoor
open Go Go.RowKit
def StP (k:World→Value→Prop):Prop:=∀ (w w2:World) (v:Value),Below w.heap.size w w2→k w v→k w2 v
structure InvP (ops:Array Oper) (x0:Nat→Value) (K:List (World→Value→Prop)) (w0:World) (l:Array Bool) (w:World) (xs:Nat→Value):Prop where
 hb:Below w0.heap.size w0 w
 p:∀ (i:Nat) (k:World→Value→Prop),K[i]? = some k→l.getD i false=true→k w (xs i)
 u:∀ (i:Nat),l.getD i false=false→xs i=x0 i
 c:∀ (i:Nat) (o:Oper),ops[i]? = some o→l.getD i false=true→∀ e∈o.after,Region.binds .any e=true→l.getD e.on false=true
def updP (xs:Nat→Value) (i:Nat) (v:Value):Nat→Value:=fun j=>if j=i then v else xs j
theorem updP_self {xs:Nat→Value} {i:Nat} {v:Value} : updP xs i v i=v:=by simp [updP]
theorem updP_ne {xs:Nat→Value} {i j:Nat} {v:Value} (h:j≠i):updP xs i v j=xs j:=by simp [updP,h]
theorem getD_keepT {l:Array Bool} {i j:Nat} (h:l.getD j false=true):(l.setIfInBounds i true).getD j false=true:=by
 by_cases e:i=j
 ·subst e
  have hs:i < l.size:=by
   rcases Nat.lt_or_ge i l.size with h' | h'
   ·exact h'
   ·rw [Array.getD_eq_getD_getElem?,Array.getElem?_eq_none h'] at h; simp at h
  simp [hs]
 ·rwa [Go.getD_set_ne false e]
theorem InvP.up {ops:Array Oper} {x0:Nat→Value} {K:List (World→Value→Prop)} {w0 w w2:World} {l:Array Bool} {xs:Nat→Value} {i:Nat} {v:Value} {k:World→Value→Prop} {o:Oper} (hK:∀ k∈K,StP k) (H:InvP ops x0 K w0 l w xs) (hi:ops[i]? = some o) (hs:i < l.size) (hd:∀ e∈o.after,Region.binds .any e=true→l.getD e.on false=true)
  (hk:K[i]? = some k) (hb:Below w.heap.size w w2) (hv:k w2 v):InvP ops x0 K w0 (l.setIfInBounds i true) w2 (updP xs i v):=by
 refine ⟨q0a H.hb hb,fun j k' hj hl=>?_,fun j hl=>?_,fun j o' ho hl e he hbi=>?_⟩
 ·by_cases e:j=i
  ·subst e; rw [hk] at hj; cases hj; rw [updP_self]; exact hv
  ·rw [Go.getD_set_ne false (Ne.symm e)] at hl;rw [updP_ne e];exact hK k' (List.mem_of_getElem? hj) _ _ _ hb (H.p j k' hj hl)
 ·by_cases e:j=i
  ·subst e;simp [hs] at hl
  ·rw [Go.getD_set_ne false (Ne.symm e)] at hl;rw [updP_ne e];exact H.u j hl
 ·refine getD_keepT ?_;by_cases e':j=i
  ·subst e'; rw [hi] at ho; cases ho; exact hd e he hbi
  ·rw [Go.getD_set_ne false (Ne.symm e')] at hl;exact H.c j o' ho hl e he hbi
def putP (D:List (Nat × Nat)) (xs:Nat→Value) (a:Act):Act:=D.foldl (fun a d=>a.put (some d.2) (xs d.1)) a
theorem putP_self {D:List (Nat × Nat)} {xs:Nat→Value} {a:Act} (h:∀ d∈D,xs d.1=a.tmps.getD d.2 undef):putP D xs a=a:=by
 unfold putP
 induction D with
 | nil=>rfl
 | cons d D ih=>
  simp only [List.foldl_cons];rw [h d (List.mem_cons_self ..),put_getD];exact ih fun e he=>h e (List.mem_cons_of_mem _ he)
def xsP (D:List (Nat × Nat)) (a:Act):Nat→Value:=fun i=>match D.find? (fun d=>d.1 == i) with | some d=>a.tmps.getD d.2 undef | none=>undef
theorem find_keyP {D:List (Nat × Nat)} (hn:(D.map (·.1)).Nodup) {d:Nat × Nat} (hd:d∈D):D.find? (fun e=>e.1 == d.1)=some d:=by
 induction D with
 | nil=>cases hd
 | cons e D ih=>
  rw [List.map_cons,List.nodup_cons] at hn;rcases List.mem_cons.1 hd with x | x
  ·subst x; simp
  ·have hne:(e.1 == d.1)=false:=by
    rw [beq_eq_false_iff_ne];exact fun y=>hn.1 (by rw [y]; exact List.mem_map.2 ⟨d,x,rfl⟩)
   rw [List.find?_cons,hne];exact ih hn.2 x
theorem xsP_self {D:List (Nat × Nat)} {a:Act} (hn:(D.map (·.1)).Nodup):putP D (xsP D a) a=a:=
 putP_self fun d hd=>by unfold xsP; rw [find_keyP hn hd]
section
variable {P:Program} {ops:Array Oper} {Q:Exit→Act→World→Prop}
theorem wp_region_P {id:Nat} {a:Act} {w:World} (K:List (World→Value→Prop)) (D:List (Nat × Nat)) (hm:P.follows .mixedOrders=true) (ho:orderB ops=true) (hn:(D.map (·.1)).Nodup) (hK:∀ k∈K,StP k)
  (hstep:∀ listed w' xs,InvP ops (xsP D a) K w listed w' xs→∀ i o,ops[i]? = some o→listed.getD i true=false→(∀ e∈o.after,Region.binds .any e=true→listed.getD e.on false=true) →
   (∀ (w2:World) (v:Value) (k:World→Value→Prop),K[i]? = some k→Below w'.heap.size w' w2→k w2 v→InvP ops (xsP D a) K w (listed.setIfInBounds i true) w2 (updP xs i v)) →
   wpOp P ops Q i (fun a' w''=>∃ xs',a'=putP D xs' a∧InvP ops (xsP D a) K w (listed.setIfInBounds i true) w'' xs') (putP D xs a) w')
  (hend:∀ listed w' xs,InvP ops (xsP D a) K w listed w' xs→(∀ j,j < ops.size→listed.getD j false=true)→Q .normal (putP D xs a) w'):(Code.region id ops true).wp P Q a w:=by
 refine wp_region_I hm ho (fun listed a' w'=>∃ xs,a'=putP D xs a∧InvP ops (xsP D a) K w listed w' xs) ⟨xsP D a,(xsP_self hn).symm,(Below.refl _ _).drew,(fun i k _ h=>(by rw [getD_replicate_false] at h; cases h)),(fun _ _=>rfl),(fun i o _ h=>(by rw [getD_replicate_false] at h; cases h))⟩ ?_ ?_
 ·rintro listed a' w' ⟨xs,rfl,H⟩ i o hi hun hd
  have hs:i < listed.size:=by
   rcases Nat.lt_or_ge i listed.size with h' | h'
   ·exact h'
   ·rw [Array.getD_eq_getD_getElem?,Array.getElem?_eq_none h'] at hun; simp at hun
  exact hstep listed w' xs H i o hi hun hd fun w2 v k hk hb hv=>H.up hK hi hs hd hk hb hv
 ·rintro listed a' w' ⟨xs,rfl,H⟩ hall;exact hend listed w' xs H hall
theorem InvP.late {x0:Nat→Value} {K:List (World→Value→Prop)} {w0 w:World} {l:Array Bool} {xs:Nat→Value} (H:InvP ops x0 K w0 l w xs) {i d:Nat} {o:Oper} (hi:ops[i]? = some o) (hw:Region.waitsFor .any ops i d=true) (hun:l.getD d true=false):xs i=x0 i:=by
 refine H.u i ?_
 cases h:l.getD i false with
 | false=>rfl
 | true=>
  exfalso
  have h2:=q0t (d:=d) hw hi (H.c i o hi h);rw [Array.getD_eq_getD_getElem?] at h2 hun
  cases h3:l[d]? with
  | none=>rw [h3] at hun; cases hun
  | some b=>rw [h3] at hun h2; simp at hun h2; rw [hun] at h2; cases h2
end
end Go.Proofs.YtcpofeehpijbcaaGreatDoor
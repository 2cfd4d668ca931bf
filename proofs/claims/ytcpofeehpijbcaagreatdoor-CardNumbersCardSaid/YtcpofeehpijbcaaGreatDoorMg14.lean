import Derived.StillTail
import Derived.OrdersHeld
import Derived.Deep.RegionHeld
import Derived.Test.YtcpofeehpijbcaaGreatDoorMg8
namespace Go.Proofs.YtcpofeehpijbcaaGreatDoor
open Go
section
variable {P:Program} {ops:Array Oper} {Q:Exit→Act→World→Prop} {md:Region.Mode} {S:World→Prop} {n:Nat} {L:Array Bool→Act→World→Prop}
def wpHT (P:Program) (md:Region.Mode) (ops:Array Oper) (Q:Exit→Act→World→Prop) (S:World→Prop) (n:Nat) (L:Array Bool→Act→World→Prop):Nat→Array Bool→Act→World→Prop
 | 0,listed,a,w=>L listed a w
 | f+1,listed,a,w=>Region.ready md ops listed≠[]∧∀ i∈Region.ready md ops listed,i < n∧wpOp P ops Q i (fun a' w'=>S w'∧wpHT P md ops Q S n L f (listed.setIfInBounds i true) a' w') a w
variable {l:List Oper}
def HTready (P:Program) (ops:Array Oper) (Q:Exit→Act→World→Prop) (S:World→Prop) (n:Nat) (L:Array Bool→Act→World→Prop) (f:Nat) (listed:Array Bool) (a:Act) (w:World) (rs:List Nat):Prop:=
 ∀ i∈rs,i < n∧wpOp P ops Q i (fun a' w'=>S w'∧wpHT P .any ops Q S n L f (listed.setIfInBounds i true) a' w') a w
theorem HTready.nil {f:Nat} {listed:Array Bool} {a:Act} {w:World} : HTready P ops Q S n L f listed a w []:=fun _ h=>by cases h
theorem HTready.cons {f:Nat} {listed:Array Bool} {a:Act} {w:World} {i:Nat} {o:Oper} {rs:List Nat} (ho:ops[i]? = some o) (hin:decide (i < n)=true)
  (h:∀ K':Act→World→Prop,Shut (∀ a w,S w→(S w→wpHT P .any ops Q S n L f (listed.setIfInBounds i true) a w)→K' a w)→if Region.wanted o (yielded ops a.tmps)=true then Oper.wp P o a w K' Q else K' (a.put o.dst undef) w)
  (hs:HTready P ops Q S n L f listed a w rs):HTready P ops Q S n L f listed a w (i :: rs):=fun j hj=>by
 rcases List.mem_cons.1 hj with rfl | hj
 ·exact ⟨of_decide_eq_true hin,wpOp_step ho (fun K' hK=>h K' (fun a w hS hW=>hK a w ⟨hS,hW hS⟩))⟩
 ·exact hs j hj
end
end Go.Proofs.YtcpofeehpijbcaaGreatDoor
namespace Go.Proofs.YtcpofeehpijbcaaGreatDoor
open Go Go.RowKit
def StP (k:World→Value→Prop):Prop:=∀ (w w2:World) (v:Value),Below w.heap.size w w2→k w v→k w2 v
structure InvP (ops:Array Oper) (x0:Nat→Value) (K:List (World→Value→Prop)) (w0:World) (l:Array Bool) (w:World) (xs:Nat→Value):Prop where
 hb:Below w0.heap.size w0 w
 p:∀ (i:Nat) (k:World→Value→Prop),K[i]? = some k→l.getD i false=true→k w (xs i)
 u:∀ (i:Nat),l.getD i false=false→xs i=x0 i
 c:∀ (i:Nat) (o:Oper),ops[i]? = some o→l.getD i false=true→∀ e∈o.after,Region.binds .any e=true→l.getD e.on false=true
def updP (xs:Nat→Value) (i:Nat) (v:Value):Nat→Value:=fun j=>if j=i then v else xs j
theorem updP_self {xs:Nat→Value} {i:Nat} {v:Value} : updP xs i v i=v:=by simp [updP]
theorem updP_ne {xs:Nat→Value} {i j:Nat} {v:Value} (h:j≠i):updP xs i v j=xs j:=by simp [updP,h]
theorem getD_keepT {l:Array Bool} {i j:Nat} (h:l.getD j false=true):(l.setIfInBounds i true).getD j false=true:=by
 by_cases e:i=j
 ·subst e
  have hs:i < l.size:=by
   rcases Nat.lt_or_ge i l.size with h' | h'
   ·exact h'
   ·rw [Array.getD_eq_getD_getElem?,Array.getElem?_eq_none h'] at h; simp at h
  simp [hs]
 ·rwa [Go.getD_set_ne false e]
theorem InvP.up {ops:Array Oper} {x0:Nat→Value} {K:List (World→Value→Prop)} {w0 w w2:World} {l:Array Bool} {xs:Nat→Value} {i:Nat} {v:Value} {k:World→Value→Prop} {o:Oper} (hK:∀ k∈K,StP k) (H:InvP ops x0 K w0 l w xs) (hi:ops[i]? = some o) (hs:i < l.size) (hd:∀ e∈o.after,Region.binds .any e=true→l.getD e.on false=true)
  (hk:K[i]? = some k) (hb:Below w.heap.size w w2) (hv:k w2 v):InvP ops x0 K w0 (l.setIfInBounds i true) w2 (updP xs i v):=by
 refine ⟨q0a H.hb hb,fun j k' hj hl=>?_,fun j hl=>?_,fun j o' ho hl e he hbi=>?_⟩
 ·by_cases e:j=i
  ·subst e; rw [hk] at hj; cases hj; rw [updP_self]; exact hv
  ·rw [Go.getD_set_ne false (Ne.symm e)] at hl;rw [updP_ne e];exact hK k' (List.mem_of_getElem? hj) _ _ _ hb (H.p j k' hj hl)
 ·by_cases e:j=i
  ·subst e;simp [hs] at hl
  ·rw [Go.getD_set_ne false (Ne.symm e)] at hl;rw [updP_ne e];exact H.u j hl
 ·refine getD_keepT ?_;by_cases e':j=i
  ·subst e'; rw [hi] at ho; cases ho; exact hd e he hbi
  ·rw [Go.getD_set_ne false (Ne.symm e')] at hl;exact H.c j o' ho hl e he hbi
section
variable {P:Program} {ops:Array Oper} {Q:Exit→Act→World→Prop}
end
end Go.Proofs.YtcpofeehpijbcaaGreatDoor
namespace Go.Proofs.YtcpofeehpijbcaaGreatDoor
open Go.RowKit Go.Lib Go.Shelf
attribute [local go_sem ↓] Go.wp_at_zero Go.wp_at_succ
theorem SlG.more {w:World} {B B':Nat} {A:Option Addr} {cs:List CD} {c:Nat} (h:SlG w B A cs c) (hB:B≤B'):SlG w B' A cs c:=⟨h.rd.more hB,h.all,h.le,h.len⟩
theorem SlI.up {w w2:World} {A:Option Addr} {l:List Int} {c:Nat} (h:SlI w w.heap.size A l c) (hb:Below w.heap.size w w2):SlI w2 w2.heap.size A l c:=(h.below hb).more hb.size
theorem SlG.up {w w2:World} {A:Option Addr} {l:List CD} {c:Nat} (h:SlG w w.heap.size A l c) (hb:Below w.heap.size w w2):SlG w2 w2.heap.size A l c:=(h.below hb).more hb.size
structure FrD (w:World) (g:Nat) (b:Int) (sh raw:List Int) (cs:List CD) (A1 A2 A3:Option Addr) (c1 c2 c3:Nat):Prop where
 lt:g < w.heap.size
 f0:w.cell? ⟨g,0,none⟩=some (.int .i64 b)
 f1:w.cell? ⟨g,1,none⟩=some (.slice A1 sh.length c1)
 f2:w.cell? ⟨g,2,none⟩=some (.slice A2 raw.length c2)
 f3:w.cell? ⟨g,3,none⟩=some (.slice A3 cs.length c3)
 h1:SlI w w.heap.size A1 sh c1
 h2:SlI w w.heap.size A2 raw c2
 h3:SlG w w.heap.size A3 cs c3
theorem FrD.up {w w2:World} {g:Nat} {b:Int} {sh raw:List Int} {cs:List CD} {A1 A2 A3:Option Addr} {c1 c2 c3:Nat} (h:FrD w g b sh raw cs A1 A2 A3 c1 c2 c3) (hb:Below w.heap.size w w2):FrD w2 g b sh raw cs A1 A2 A3 c1 c2 c3:=
 ⟨Nat.lt_of_lt_of_le h.lt hb.size,q0b hb h.f0,q0b hb h.f1,q0b hb h.f2,q0b hb h.f3,h.h1.up hb,h.h2.up hb,h.h3.up hb⟩
end Go.Proofs.YtcpofeehpijbcaaGreatDoor
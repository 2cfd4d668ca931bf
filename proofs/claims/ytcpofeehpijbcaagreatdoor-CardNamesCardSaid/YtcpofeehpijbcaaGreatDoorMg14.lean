import Derived.StillTail
import Derived.OrdersHeld
import Derived.Deep.RegionHeld
import Derived.Test.YtcpofeehpijbcaaGreatDoorRfA
import Derived.Test.YtcpofeehpijbcaaGreatDoorMg13
import Derived.Test.YtcpofeehpijbcaaGreatDoorRf6
namespace Go.Proofs.YtcpofeehpijbcaaGreatDoor
open Go
section
variable {P:Program} {ops:Array Oper} {Q:Exit→Act→World→Prop} {md:Region.Mode} {S:World→Prop} {n:Nat} {L:Array Bool→Act→World→Prop}
def wpHT (P:Program) (md:Region.Mode) (ops:Array Oper) (Q:Exit→Act→World→Prop) (S:World→Prop) (n:Nat) (L:Array Bool→Act→World→Prop):Nat→Array Bool→Act→World→Prop
 | 0,listed,a,w=>L listed a w
 | f+1,listed,a,w=>Region.ready md ops listed≠[]∧∀ i∈Region.ready md ops listed,i < n∧wpOp P ops Q i (fun a' w'=>S w'∧wpHT P md ops Q S n L f (listed.setIfInBounds i true) a' w') a w
variable {l:List Oper}
def HTready (P:Program) (ops:Array Oper) (Q:Exit→Act→World→Prop) (S:World→Prop) (n:Nat) (L:Array Bool→Act→World→Prop) (f:Nat) (listed:Array Bool) (a:Act) (w:World) (rs:List Nat):Prop:=
 ∀ i∈rs,i < n∧wpOp P ops Q i (fun a' w'=>S w'∧wpHT P .any ops Q S n L f (listed.setIfInBounds i true) a' w') a w
theorem HTready.nil {f:Nat} {listed:Array Bool} {a:Act} {w:World} : HTready P ops Q S n L f listed a w []:=fun _ h=>by cases h
theorem HTready.cons {f:Nat} {listed:Array Bool} {a:Act} {w:World} {i:Nat} {o:Oper} {rs:List Nat} (ho:ops[i]? = some o) (hin:decide (i < n)=true)
  (h:∀ K':Act→World→Prop,Shut (∀ a w,S w→(S w→wpHT P .any ops Q S n L f (listed.setIfInBounds i true) a w)→K' a w)→if Region.wanted o (yielded ops a.tmps)=true then Oper.wp P o a w K' Q else K' (a.put o.dst undef) w)
  (hs:HTready P ops Q S n L f listed a w rs):HTready P ops Q S n L f listed a w (i :: rs):=fun j hj=>by
 rcases List.mem_cons.1 hj with rfl | hj
 ·exact ⟨of_decide_eq_true hin,wpOp_step ho (fun K' hK=>h K' (fun a w hS hW=>hK a w ⟨hS,hW hS⟩))⟩
 ·exact hs j hj
end
end Go.Proofs.YtcpofeehpijbcaaGreatDoor
namespace Go.Proofs.YtcpofeehpijbcaaGreatDoor
open Go.RowKit Go.Lib Go.Shelf
attribute [local go_sem ↓] Go.wp_at_zero Go.wp_at_succ
theorem SlG.more {w:World} {B B':Nat} {A:Option Addr} {cs:List CD} {c:Nat} (h:SlG w B A cs c) (hB:B≤B'):SlG w B' A cs c:=⟨h.rd.more hB,h.all,h.le,h.len⟩
end Go.Proofs.YtcpofeehpijbcaaGreatDoor
namespace Go.Proofs.YtcpofeehpijbcaaGreatDoor
open Go.RowKit Go.Lib Go.Shelf
theorem SlY.more {w:World} {B B':Nat} {A:Option Addr} {cs:List CD} {c:Nat} (h:SlY w B A cs c) (hB:B≤B'):SlY w B' A cs c:=⟨h.rd.more hB,h.all,h.le,h.len⟩
structure FB (w:World) (g:Nat) (q:Rat) (A:Option Addr) (c:Nat) (B:Option Addr) (d:Nat):Prop where
 k:BlkV w g 43 #[.bool (frQ q).1.1,.slice A (frQ q).1.2.length c,.bool (frQ q).2.1,.slice B (frQ q).2.2.length d]
 s:Sl w A (frQ q).1.2 c
 t:Sl w B (frQ q).2.2 d
theorem FB.keep {w w':World} {g:Nat} {q:Rat} {A:Option Addr} {c:Nat} {B:Option Addr} {d:Nat} (h:FB w g q A c B d) (hb:Below w.heap.size w w'):FB w' g q A c B d:=⟨h.k.keep hb,h.s.below hb,h.t.below hb⟩
theorem FB.fresh {w:World} {q:Rat} {A:Option Addr} {c:Nat} {B:Option Addr} {d:Nat} (s:Sl w A (frQ q).1.2 c) (t:Sl w B (frQ q).2.2 d):FB (w.alloc (.cells #[.bool (frQ q).1.1,.slice A (frQ q).1.2.length c,.bool (frQ q).2.1,.slice B (frQ q).2.2.length d] 43)) w.heap.size q A c B d:=⟨BlkV.fresh rfl _ _,s.alloc _,t.alloc _⟩
end Go.Proofs.YtcpofeehpijbcaaGreatDoor
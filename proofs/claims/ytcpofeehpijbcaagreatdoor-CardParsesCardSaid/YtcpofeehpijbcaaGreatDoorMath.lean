namespace Go.Proofs.YtcpofeehpijbcaaGreatDoor
def val:List Nat→Nat
 | []=>0
 | x :: t=>x+4294967296 * val t
def Lim (l:List Nat):Prop:=∀ x∈l,x < 4294967296
def limbsF:Nat→Nat→List Nat
 | 0,_=>[]
 | f+1,n=>if n=0 then [] else n % 4294967296 :: limbsF f (n / 4294967296)
def limbs (n:Nat):List Nat:=limbsF n n
def pv (l:List Nat) (i:Nat):Nat:=val (l.take i)
theorem lim_nil:Lim []:=fun x hx=>by cases hx
end Go.Proofs.YtcpofeehpijbcaaGreatDoor
namespace Go.Proofs.YtcpofeehpijbcaaGreatDoor
end Go.Proofs.YtcpofeehpijbcaaGreatDoor
namespace Go.Proofs.YtcpofeehpijbcaaGreatDoor
theorem getD_set_ne {o:List Nat} {i j s:Nat} (h:i≠j):(o.set i s)[j]?.getD 0=o[j]?.getD 0:=by rw [List.getElem?_set_ne h]
end Go.Proofs.YtcpofeehpijbcaaGreatDoor
namespace Go.Proofs.YtcpofeehpijbcaaGreatDoor
end Go.Proofs.YtcpofeehpijbcaaGreatDoor
namespace Go.Proofs.YtcpofeehpijbcaaGreatDoor
end Go.Proofs.YtcpofeehpijbcaaGreatDoor
namespace Go.Proofs.YtcpofeehpijbcaaGreatDoor
end Go.Proofs.YtcpofeehpijbcaaGreatDoor
namespace Go.Proofs.YtcpofeehpijbcaaGreatDoor
end Go.Proofs.YtcpofeehpijbcaaGreatDoor
namespace Go.Proofs.YtcpofeehpijbcaaGreatDoor
end Go.Proofs.YtcpofeehpijbcaaGreatDoor
namespace Go.Proofs.YtcpofeehpijbcaaGreatDoor
end Go.Proofs.YtcpofeehpijbcaaGreatDoor
namespace Go.Proofs.YtcpofeehpijbcaaGreatDoor
end Go.Proofs.YtcpofeehpijbcaaGreatDoor
import Derived.Test.YtcpofeehpijbcaaGreatDoorFMath
namespace Go.Proofs.YtcpofeehpijbcaaGreatDoor
def frQ (q:Rat):(Bool × List Nat) × (Bool × List Nat):=(wOf q.num,wOf q.den)
section
variable {k j:Nat} {p q:Rat} {a b:Int}
theorem den_pos' (q:Rat):(0:Int) < q.den:=by have:=q.den_pos; omega
theorem div_parts (hb:b≠0):redZ a b=frQ (Rat.divInt a b)∧(Rat.divInt a b).num.natAbs≤a.natAbs∧(((Rat.divInt a b).den:Nat):Int).natAbs≤b.natAbs:=by
 obtain ⟨x,y,h1,h2,h3,h4,h5⟩:=red_parts (x:=a) hb;have hg:=sg_ne (x:=a) hb;have e:=Rat.num_divInt_den (Rat.divInt a b);have hd:=den_pos' (Rat.divInt a b);have eq2:(Rat.divInt a b).num * b=a * ((Rat.divInt a b).den:Int):=(Rat.divInt_eq_divInt_iff (by omega) hb).1 e;have hr:=(Rat.divInt a b).reduced;unfold Nat.Coprime at hr;rw [h3];generalize Rat.divInt a b=q at *;generalize sgZ a b=g at *;have hq:q.num * b=a * q.den:=eq2;subst h1 h2
 have hxy:q.num * y=x * q.den:=by
  have:g * (q.num * y)=g * (x * q.den):=(by grind);exact Int.eq_of_mul_eq_mul_left hg this
 obtain ⟨e1,e2⟩:=frac_uniq hd h4 (by simpa [Int.gcd] using hr) h5 hxy;subst e1;refine ⟨by rw [← e2]; rfl,?_,?_⟩
 ·rw [Int.natAbs_mul]; exact Nat.le_mul_of_pos_left _ (by omega)
 ·rw [e2,Int.natAbs_mul]; exact Nat.le_mul_of_pos_left _ (by omega)
theorem red_q (hb:b≠0):redZ a b=frQ (Rat.divInt a b):=(div_parts hb).1
theorem of_q (hb:b≠0):ofS a b=(frQ (Rat.divInt a b),0):=by unfold ofS; rw [if_neg hb,red_q hb]
end
end Go.Proofs.YtcpofeehpijbcaaGreatDoor
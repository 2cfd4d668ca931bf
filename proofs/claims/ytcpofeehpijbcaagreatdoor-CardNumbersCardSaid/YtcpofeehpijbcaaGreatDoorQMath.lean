import Derived.Test.YtcpofeehpijbcaaGreatDoorFMath
namespace Go.Proofs.YtcpofeehpijbcaaGreatDoor
def frQ (q:Rat):(Bool × List Nat) × (Bool × List Nat):=(wOf q.num,wOf q.den)
def Few (k:Nat) (q:Rat):Prop:=q.num.natAbs < 4294967296 ^ k∧((q.den:Nat):Int).natAbs < 4294967296 ^ k
section
variable {k j:Nat} {p q:Rat} {a b:Int}
theorem den_pos' (q:Rat):(0:Int) < q.den:=by have:=q.den_pos; omega
theorem Few.up (h:Few k q) (hk:k≤j):Few j q:=⟨lt_up h.1 hk,lt_up h.2 hk⟩
theorem few_vf (h:Few k q) (hk:k≤4096):VFk k (frQ q).1.1 (frQ q).1.2 (frQ q).2.1 (frQ q).2.2 q.num q.den:=
 ⟨⟨vz_wOf (fit_of_lt h.1 hk),vz_wOf (fit_of_lt h.2 hk),den_pos' q,by
  have:=q.reduced;unfold Nat.Coprime at this;simpa [Int.gcd] using this⟩,h.1,h.2⟩
theorem div_parts (hb:b≠0):redZ a b=frQ (Rat.divInt a b)∧(Rat.divInt a b).num.natAbs≤a.natAbs∧(((Rat.divInt a b).den:Nat):Int).natAbs≤b.natAbs:=by
 obtain ⟨x,y,h1,h2,h3,h4,h5⟩:=red_parts (x:=a) hb;have hg:=sg_ne (x:=a) hb;have e:=Rat.num_divInt_den (Rat.divInt a b);have hd:=den_pos' (Rat.divInt a b);have eq2:(Rat.divInt a b).num * b=a * ((Rat.divInt a b).den:Int):=(Rat.divInt_eq_divInt_iff (by omega) hb).1 e;have hr:=(Rat.divInt a b).reduced;unfold Nat.Coprime at hr;rw [h3];generalize Rat.divInt a b=q at *;generalize sgZ a b=g at *;have hq:q.num * b=a * q.den:=eq2;subst h1 h2
 have hxy:q.num * y=x * q.den:=by
  have:g * (q.num * y)=g * (x * q.den):=(by grind);exact Int.eq_of_mul_eq_mul_left hg this
 obtain ⟨e1,e2⟩:=frac_uniq hd h4 (by simpa [Int.gcd] using hr) h5 hxy;subst e1;refine ⟨by rw [← e2]; rfl,?_,?_⟩
 ·rw [Int.natAbs_mul]; exact Nat.le_mul_of_pos_left _ (by omega)
 ·rw [e2,Int.natAbs_mul]; exact Nat.le_mul_of_pos_left _ (by omega)
theorem few_div (hb:b≠0) (h1:a.natAbs < 4294967296 ^ k) (h2:b.natAbs < 4294967296 ^ k):Few k (Rat.divInt a b):=
 ⟨Nat.lt_of_le_of_lt (div_parts hb).2.1 h1,Nat.lt_of_le_of_lt (div_parts (a:=a) hb).2.2 h2⟩
theorem red_q (hb:b≠0):redZ a b=frQ (Rat.divInt a b):=(div_parts hb).1
theorem of_q (hb:b≠0):ofS a b=(frQ (Rat.divInt a b),0):=by unfold ofS; rw [if_neg hb,red_q hb]
theorem few_int {n:Int} (h:n.natAbs < 4294967296 ^ k) (hk:0 < k):Few k (n:Rat):=⟨by simpa using h,by
 have:1 < 4294967296 ^ k:=Nat.one_lt_pow (by omega) (by decide);simpa using this⟩
theorem q_mul (hp:Few k p) (hq:Few j q) (hk:k+j≤4096):bothF (frQ p).1.1 (frQ p).1.2 (frQ p).2.1 (frQ p).2.2 (frQ q).1.1 (frQ q).1.2 (frQ q).2.1 (frQ q).2.2 mulV=(frQ (p * q),0)∧Few (k+j) (p * q):=by
 have v1:=few_vf hp (by omega);have v2:=few_vf hq (by omega);have d1:=den_pos' p;have d2:=den_pos' q
 have e:p * q=Rat.divInt (p.num * q.num) (p.den * q.den):=by
  rw [← Rat.divInt_mul_divInt,Rat.num_divInt_den,Rat.num_divInt_den]
 have hne:((p.den:Int) * q.den)≠0:=Int.mul_ne_zero (by omega) (by omega);refine ⟨?_,?_⟩
 ·rw [both_good v1.vf v2.vf,mul_good v1 v2 hk,red_q hne,e]
 ·rw [e];exact few_div hne (mul_few hp.1 hq.1) (mul_few hp.2 hq.2)
end
end Go.Proofs.YtcpofeehpijbcaaGreatDoor
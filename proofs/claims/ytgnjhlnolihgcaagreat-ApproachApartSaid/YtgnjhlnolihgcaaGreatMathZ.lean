import Derived.Test.YtgnjhlnolihgcaaGreatMath
import Derived.Lib.TrimByte
namespace Go.Proofs.YtgnjhlnolihgcaaGreat
def gcdS (n1:Bool) (l1:List Nat) (n2:Bool) (l2:List Nat):(Bool × List Nat) × Int:=if badL n1 l1 || badL n2 l2 then ((false,[]),8) else outN false (Nat.gcd (val l1) (val l2))
theorem gcd_step (x y:Nat):Nat.gcd y (x % y)=Nat.gcd x y:=by
 rw [Nat.gcd_comm y,← Nat.gcd_rec,Nat.gcd_comm]
theorem gcd_end {x y:List Nat} (h:¬ 0 < y.length):Nat.gcd (val x) (val y)=val x:=by
 obtain rfl:y=[]:=List.eq_nil_of_length_eq_zero (by omega);simp [val]
theorem mod_len {x y:List Nat} (hy:Canon y) (h:0 < y.length):(limbs (val x % val y)).length≤y.length:=
 q0v (q0i _) hy (by rw [q0f]; exact Nat.le_of_lt (Nat.mod_lt _ (q0o hy h)))
end Go.Proofs.YtgnjhlnolihgcaaGreat
namespace Go.Proofs.YtgnjhlnolihgcaaGreat
def fitZ (z:Int):Prop:=(limbs z.natAbs).length≤4096
theorem fit_mono {a b:Int} (h:a.natAbs≤b.natAbs) (hb:fitZ b):fitZ a:=by
 unfold fitZ at *;exact fit_le (q0i b.natAbs) hb (by rw [q0f]; exact h)
theorem fit_one:fitZ 1:=by
 unfold fitZ;exact Nat.le_trans (Nat.le_of_eq (show (limbs (1:Int).natAbs).length=1 by rfl)) (by omega)
theorem fit_pow {z:Int} {j k:Nat} (hjk:j≤k) (h:fitZ (z ^ k)):fitZ (z ^ j):=by
 by_cases hz:z=0
 ·subst hz;refine fit_mono (b:=1) ?_ fit_one;rw [Int.natAbs_pow]
  cases j with
  | zero=>simp
  | succ j=>simp
 ·refine fit_mono ?_ h;rw [Int.natAbs_pow,Int.natAbs_pow];exact Nat.pow_le_pow_right (by omega) hjk
theorem outZ_not {z:Int} (h:¬ fitZ z):outZ z=((false,[]),16):=by
 unfold outZ outN;exact if_neg h
theorem outZ_is {z:Int} (h:fitZ z):outZ z=(wOf z,0):=outZ_fit h
theorem mulS_of {y:Int} {n:Bool} {l:List Nat} (hy:fitZ y) (hg:badL n l=false):mulS (wOf y).1 (wOf y).2 n l=outZ (y * zv n l):=by
 unfold mulS;rw [wOf_good y hy,hg,if_neg (by simp),zv_wOf]
theorem mulS_two {x y:Int} (hx:fitZ x) (hy:fitZ y):mulS (wOf x).1 (wOf x).2 (wOf y).1 (wOf y).2=outZ (x * y):=by
 rw [mulS_of hx (wOf_good y hy),zv_wOf]
def powS (n:Bool) (l:List Nat) (k:Int):(Bool × List Nat) × Int:=
 if badL n l then ((false,[]),8) else if k < 0∨1000 < k then ((false,[]),2) else outZ (zv n l ^ k.toNat)
theorem powS_good {n:Bool} {l:List Nat} {k:Nat} (h:badL n l=false) (hk:k≤1000):powS n l (k:Int)=outZ (zv n l ^ k):=by
 unfold powS;rw [h,if_neg (by simp),if_neg (by omega),Int.toNat_natCast]
theorem powS_arg {n:Bool} {l:List Nat} {k:Int} (h:badL n l=false) (hk:k < 0∨1000 < k):powS n l k=((false,[]),2):=by
 unfold powS;rw [h,if_neg (by simp),if_pos hk]
theorem pow_bit (z:Int) (k i:Nat):(z ^ (k / 2 ^ (i+1)) * z ^ (k / 2 ^ (i+1))) * (if k / 2 ^ i % 2=1 then z else 1)=z ^ (k / 2 ^ i):=by
 have h:k / 2 ^ (i+1)=k / 2 ^ i / 2:=(by rw [Nat.pow_succ,Nat.div_div_eq_div_mul]);rw [h];generalize k / 2 ^ i=m;have h2:m=m / 2+m / 2+m % 2:=(by omega);conv=>rhs; rw [h2,Int.pow_add,Int.pow_add]
 rcases Nat.mod_two_eq_zero_or_one m with h3 | h3 <;> rw [h3] <;> simp [Int.pow_succ]
end Go.Proofs.YtgnjhlnolihgcaaGreat
namespace Go.Proofs.YtgnjhlnolihgcaaGreat
def isqF:Nat→Nat→Nat
 | 0,_=>0
 | f+1,a=>if (f+1) * (f+1)≤a then f+1 else isqF f a
def isq (a:Nat):Nat:=isqF a a
theorem isqF_le (f a:Nat):isqF f a * isqF f a≤a:=by
 induction f with
 | zero=>simp [isqF]
 | succ f ih=>
  unfold isqF;split
  ·assumption
  ·exact ih
theorem isqF_gt (f a:Nat) (h:a < (f+1) * (f+1)):a < (isqF f a+1) * (isqF f a+1):=by
 induction f with
 | zero=>simpa [isqF] using h
 | succ f ih=>
  unfold isqF;split
  ·exact h
  ·exact ih (by omega)
theorem isq_le (a:Nat):isq a * isq a≤a:=isqF_le a a
theorem isq_gt (a:Nat):a < (isq a+1) * (isq a+1):=isqF_gt a a (by
 have:(a+1) * 1≤(a+1) * (a+1):=Nat.mul_le_mul_left _ (by omega);omega)
theorem isq_uniq {a r:Nat} (h1:r * r≤a) (h2:a < (r+1) * (r+1)):isq a=r:=by
 have h3:=isq_le a;have h4:=isq_gt a;rcases Nat.lt_trichotomy (isq a) r with h | h | h
 ·have:(isq a+1) * (isq a+1)≤r * r:=Nat.mul_le_mul h h;omega
 ·exact h
 ·have:(r+1) * (r+1)≤isq a * isq a:=Nat.mul_le_mul h h;omega
theorem newton_above {a r:Nat} (hr:0 < r):a < ((a / r+r) / 2+1) * ((a / r+r) / 2+1):=by
 have h1:=Nat.div_add_mod a r;have h2:=Nat.mod_lt a hr;generalize a / r=q at *;generalize a % r=t at *;obtain ⟨s,hs⟩:∃ s,s=(q+r) / 2:=⟨_,rfl⟩;rw [← hs];have h3:q+r+1≤2 * (s+1):=by omega
 -- 4 a < 4 r (q + 1) <= (q + r + 1)^2
 have h4:a < r * (q+1):=by rw [Nat.mul_add]; omega
 have h5:4 * (r * (q+1))≤(q+r+1) * (q+r+1):=by
  rcases Nat.le_total r (q+1) with h | h
  ·obtain ⟨d,hd⟩:=Nat.exists_eq_add_of_le h;have e:q+r+1=2 * r+d:=(by omega);rw [e,hd];simp only [Nat.mul_add,Nat.add_mul];have:=Nat.zero_le (d * d);have c1:r * d=d * r:=Nat.mul_comm _ _;have c2:2 * r * (2 * r)=4 * (r * r):=(by rw [Nat.mul_mul_mul_comm]);have c3:2 * r * d=2 * (d * r):=(by rw [Nat.mul_assoc,c1]);have c4:d * (2 * r)=2 * (d * r):=(by rw [Nat.mul_left_comm]);omega
  ·obtain ⟨d,hd⟩:=Nat.exists_eq_add_of_le h;have e:q+r+1=2 * (q+1)+d:=(by omega);rw [e,hd];generalize q+1=p;simp only [Nat.mul_add,Nat.add_mul];have c2:2 * p * (2 * p)=4 * (p * p):=(by rw [Nat.mul_mul_mul_comm]);have c3:2 * p * d=2 * (d * p):=(by rw [Nat.mul_assoc,Nat.mul_comm p d]);have c4:d * (2 * p)=2 * (d * p):=(by rw [Nat.mul_left_comm]);omega
 have h6:(q+r+1) * (q+r+1)≤(2 * (s+1)) * (2 * (s+1)):=Nat.mul_le_mul h3 h3;have h7:(2 * (s+1)) * (2 * (s+1))=4 * ((s+1) * (s+1)):=(by rw [Nat.mul_mul_mul_comm]);omega
theorem newton_end {a r:Nat} (hr:0 < r) (habove:a < (r+1) * (r+1)) (h:r≤(a / r+r) / 2):isq a=r:=by
 refine isq_uniq ?_ habove;have h1:r≤a / r:=(by omega);exact (Nat.le_div_iff_mul_le hr).1 h1
theorem newton_pos {a r:Nat} (ha:0 < a) (hr:0 < r):0 < (a / r+r) / 2:=by
 rcases Nat.lt_or_ge a r with h | h
 ·rw [Nat.div_eq_of_lt h]; omega
 ·have:0 < a / r:=Nat.div_pos h hr;omega
theorem newton_start {a n:Nat} (h:a < 2 ^ n):a < (2 ^ ((n+1) / 2)+1) * (2 ^ ((n+1) / 2)+1):=by
 have h1:2 ^ n≤2 ^ ((n+1) / 2) * 2 ^ ((n+1) / 2):=by
  rw [← Nat.pow_add];exact Nat.pow_le_pow_right (by omega) (by omega)
 have h2:2 ^ ((n+1) / 2) * 2 ^ ((n+1) / 2)≤(2 ^ ((n+1) / 2)+1) * (2 ^ ((n+1) / 2)+1):=Nat.mul_le_mul (by omega) (by omega);omega
def sqrtS (n:Bool) (l:List Nat):(Bool × List Nat) × Int:=if badL n l then ((false,[]),8) else if n then ((false,[]),2) else outN false (isq (val l))
end Go.Proofs.YtgnjhlnolihgcaaGreat
namespace Go.Proofs.YtgnjhlnolihgcaaGreat
def VZ (n:Bool) (l:List Nat) (z:Int):Prop:=(n,l)=wOf z∧fitZ z
theorem vz_of {n:Bool} {l:List Nat} (hl:Lim l) (h:badL n l=false):VZ n l (zv n l):=good_wOf hl h
theorem q0p {z:Int} (h:fitZ z):VZ (wOf z).1 (wOf z).2 z:=⟨rfl,h⟩
theorem vz_mk {n:Bool} {l:List Nat} {z:Int} (e:(n,l)=wOf z) (h:fitZ z):VZ n l z:=⟨e,h⟩
section
variable {n n1 n2:Bool} {l l1 l2:List Nat} {x y z:Int}
theorem VZ.good (h:VZ n l z):badL n l=false:=by
 obtain ⟨e,f⟩:=h;obtain ⟨rfl,rfl⟩:=Prod.mk.inj e;exact wOf_good z f
theorem VZ.val_eq (h:VZ n l z):val l=z.natAbs:=by
 obtain ⟨e,f⟩:=h;obtain ⟨rfl,rfl⟩:=Prod.mk.inj e;exact q0f _
theorem VZ.zv_eq (h:VZ n l z):zv n l=z:=by
 obtain ⟨e,f⟩:=h;obtain ⟨rfl,rfl⟩:=Prod.mk.inj e;exact zv_wOf z
theorem VZ.canon (h:VZ n l z):Canon l:=by
 obtain ⟨e,f⟩:=h;obtain ⟨rfl,rfl⟩:=Prod.mk.inj e;exact q0i _
theorem VZ.neg_eq (h:VZ n l z):n=decide (z < 0):=by
 obtain ⟨e,f⟩:=h;obtain ⟨rfl,rfl⟩:=Prod.mk.inj e;rfl
theorem VZ.limbs_eq (h:VZ n l z):l=limbs z.natAbs:=by
 obtain ⟨e,f⟩:=h;obtain ⟨rfl,rfl⟩:=Prod.mk.inj e;rfl
theorem VZ.len (h:VZ n l z):l.length≤4096:=by rw [h.limbs_eq]; exact h.2
theorem VZ.zero (h:VZ n l z):l.length=0 ↔ z=0:=by
 rw [h.limbs_eq,List.length_eq_zero_iff,limbs_eq_nil]; omega
theorem VZ.pos (h:VZ n l z):0 < l.length ↔ z≠0:=by
 rw [Nat.pos_iff_ne_zero,ne_eq,h.zero]
theorem VZ.chk (h:VZ n l z):chk n l=0:=q1s h.good
theorem VZ.inj (h:VZ n1 l1 z) (k:VZ n2 l2 z):(n1,l1)=(n2,l2):=h.1.trans k.1.symm
theorem VZ.lt (h:VZ n l z):z.natAbs < 4294967296 ^ l.length:=by
 have:=val_lt h.canon.1;rwa [h.val_eq] at this
theorem q1q {k:Nat} (h:z.natAbs < 4294967296 ^ k) (hk:k≤4096):fitZ z:=Nat.le_trans (limbs_len_le.2 h) hk
theorem outN_false (n:Nat):outN false n=outZ (n:Int):=by rw [outN_zv]; rfl
theorem addS_z (h1:VZ n1 l1 x) (h2:VZ n2 l2 y) (hf:fitZ (x+y)):addS n1 l1 n2 l2=(wOf (x+y),0):=by
 unfold addS;rw [h1.good,h2.good,if_neg (by simp),h1.zv_eq,h2.zv_eq,outZ_is hf]
theorem subS_z (h1:VZ n1 l1 x) (h2:VZ n2 l2 y) (hf:fitZ (x - y)):subS n1 l1 n2 l2=(wOf (x - y),0):=by
 unfold subS;rw [h1.good,h2.good,if_neg (by simp),h1.zv_eq,h2.zv_eq,outZ_is hf]
theorem mulS_z (h1:VZ n1 l1 x) (h2:VZ n2 l2 y) (hf:fitZ (x * y)):mulS n1 l1 n2 l2=(wOf (x * y),0):=by
 unfold mulS;rw [h1.good,h2.good,if_neg (by simp),h1.zv_eq,h2.zv_eq,outZ_is hf]
theorem negS_z (h:VZ n l x):negS n l=(wOf (-x),0):=by
 unfold negS
 have e:(if !n then -((val l:Nat):Int) else ((val l:Nat):Int)) = -x:=by
  rw [← h.zv_eq]; unfold zv; cases n <;> simp
 rw [h.good,if_neg (by simp),outN_zv,e,outZ_is (by unfold fitZ; rw [Int.natAbs_neg]; exact h.2)]
theorem cmpS_z (h1:VZ n1 l1 x) (h2:VZ n2 l2 y):cmpS n1 l1 n2 l2=(cmpZ x y,0):=by
 unfold cmpS;rw [h1.good,h2.good,if_neg (by simp),h1.zv_eq,h2.zv_eq]
theorem gcdS_z (h1:VZ n1 l1 x) (h2:VZ n2 l2 y) (hf:fitZ (Int.gcd x y)):gcdS n1 l1 n2 l2=(wOf (Int.gcd x y),0):=by
 unfold gcdS;rw [h1.good,h2.good,if_neg (by simp),outN_false,h1.val_eq,h2.val_eq];exact outZ_is hf
theorem fit_gcd (h1:fitZ x) (h2:fitZ y):fitZ (Int.gcd x y):=by
 by_cases hx:x=0
 ·subst hx;rw [Int.gcd_zero_left];exact fit_mono (by simp) h2
 ·refine fit_mono (b:=x) ?_ h1;rw [Int.natAbs_natCast];exact Nat.le_of_dvd (by omega) (Int.gcd_dvd_natAbs_left x y)
theorem vz_gcd (h1:VZ n1 l1 x) (h2:VZ n2 l2 y):gcdS n1 l1 n2 l2=(wOf (Int.gcd x y),0):=gcdS_z h1 h2 (fit_gcd h1.2 h2.2)
theorem div_uniq {q r:Int} (hy:y≠0) (h:q * y+r=x) (hr:(0 < y→0≤r∧r < y)∧(y < 0→r≤0∧y < r)):q=x.fdiv y∧r=x.fmod y:=by
 have h1:=Int.mul_fdiv_add_fmod x y
 have key:∀ a:Int,a * y+r=x→∀ b s:Int,b * y+s=x→(0 < y→0≤s∧s < y)∧(y < 0→s≤0∧y < s)→a=b:=by
  intro a ha b s hb hs;have e:(a - b) * y=s - r:=(by rw [Int.sub_mul]; omega);rcases Int.lt_trichotomy (a - b) 0 with h0 | h0 | h0
  ·exfalso
   rcases Int.lt_or_gt_of_ne hy with hy0 | hy0
   ·have:=hr.2 hy0; have:=hs.2 hy0;have:(a - b) * y ≥ (-1) * y:=Int.mul_le_mul_of_nonpos_right (by omega) (by omega);omega
   ·have:=hr.1 hy0; have:=hs.1 hy0;have:(a - b) * y≤(-1) * y:=Int.mul_le_mul_of_nonneg_right (by omega) (by omega);omega
  ·omega
  ·exfalso
   rcases Int.lt_or_gt_of_ne hy with hy0 | hy0
   ·have:=hr.2 hy0; have:=hs.2 hy0;have:(a - b) * y≤1 * y:=Int.mul_le_mul_of_nonpos_right (by omega) (by omega);omega
   ·have:=hr.1 hy0; have:=hs.1 hy0;have:(a - b) * y ≥ 1 * y:=Int.mul_le_mul_of_nonneg_right (by omega) (by omega);omega
 have hm:(0 < y→0≤x.fmod y∧x.fmod y < y)∧(y < 0→x.fmod y≤0∧y < x.fmod y):=by
  constructor
  ·intro h0;exact ⟨Int.fmod_nonneg_of_pos x h0,Int.fmod_lt_of_pos x h0⟩
  ·intro h0;have e:(-x).fmod (-y) = -x.fmod y:=Int.neg_fmod_neg x y;have h2:=Int.fmod_nonneg_of_pos (-x) (show 0 < -y by omega);have h3:=Int.fmod_lt_of_pos (-x) (show 0 < -y by omega);omega
 have hq:=key q h (x.fdiv y) (x.fmod y) (by rw [Int.mul_comm]; exact h1) hm;exact ⟨hq,by rw [hq,Int.mul_comm] at h; omega⟩
theorem dmS_z (h1:VZ n1 l1 x) (h2:VZ n2 l2 y) (hy:y≠0):dmS n1 l1 n2 l2=(wOf (x.fdiv y),wOf (x.fmod y),0):=by
 have hl:0 < l2.length:=h2.pos.2 hy;have hv:0 < val l2:=q0o h2.canon hl;obtain ⟨e1,e2⟩:=dm_law (n1:=n1) (n2:=n2) (l1:=l1) hv;have e3:0≤(drN n1 (val l1) n2 (val l2):Int):=(by omega);unfold dmS;rw [h1.good,h2.good,if_neg (by simp),if_neg (by omega)];have hva:=h2.val_eq;rw [h1.zv_eq,h2.zv_eq] at e1;have hn:=h2.neg_eq
 have hr:(0 < y→0≤drZ n1 (val l1) n2 (val l2)∧drZ n1 (val l1) n2 (val l2) < y)∧(y < 0→drZ n1 (val l1) n2 (val l2)≤0∧y < drZ n1 (val l1) n2 (val l2)):=by
  unfold drZ;constructor
  ·intro h0;have hf:¬ (n2=true):=(by rw [hn,decide_eq_true_eq]; omega);rw [if_neg hf];omega
  ·intro h0;have hf:n2=true:=(by rw [hn,decide_eq_true_eq]; omega);rw [if_pos hf];omega
 obtain ⟨a,b⟩:=div_uniq hy e1 hr;rw [a,b]
theorem fit_fdiv (h:fitZ x):fitZ (x.fdiv y):=by
 by_cases hy:y=0
 ·subst hy; rw [Int.fdiv_zero]; exact fit_mono (by simp) h
 ·refine fit_mono (b:=x) ?_ h
  have key:∀ a b:Int,0 < b→(a.fdiv b).natAbs≤a.natAbs:=fun a b hb=>by
   rw [Int.fdiv_eq_ediv_of_nonneg a (by omega)];exact Int.natAbs_ediv_le_natAbs a b
  rcases Int.lt_or_gt_of_ne hy with h0 | h0
  ·have:=key (-x) (-y) (by omega);rwa [Int.neg_fdiv_neg,Int.natAbs_neg] at this
  ·exact key x y h0
theorem fmod_bd (hy:y≠0):(x.fmod y).natAbs < y.natAbs:=by
 rcases Int.lt_or_gt_of_ne hy with h0 | h0
 ·have e:(-x).fmod (-y) = -x.fmod y:=Int.neg_fmod_neg x y;have h2:=Int.fmod_nonneg_of_pos (-x) (show 0 < -y by omega);have h3:=Int.fmod_lt_of_pos (-x) (show 0 < -y by omega);omega
 ·have h2:=Int.fmod_nonneg_of_pos x h0;have h3:=Int.fmod_lt_of_pos x h0;omega
theorem fit_fmod (hy:y≠0) (h:fitZ y):fitZ (x.fmod y):=fit_mono (Nat.le_of_lt (fmod_bd hy)) h
end
end Go.Proofs.YtgnjhlnolihgcaaGreat
namespace Go.Proofs.YtgnjhlnolihgcaaGreat
theorem lt_sum {a b k:Nat} (ha:a < 4294967296 ^ k) (hb:b < 4294967296 ^ k):a+b < 4294967296 ^ (k+1):=by
 rw [Nat.pow_succ]; omega
end Go.Proofs.YtgnjhlnolihgcaaGreat
namespace Go.Proofs.YtgnjhlnolihgcaaGreat
section
variable {n n1 n2:Bool} {l l1 l2:List Nat} {x y z:Int}
theorem mul_lt {a b i j:Nat} (ha:a < 4294967296 ^ i) (hb:b < 4294967296 ^ j):a * b < 4294967296 ^ (i+j):=by
 rw [Nat.pow_add];exact Nat.mul_lt_mul'' ha hb
theorem isq_self_le (a:Nat):isq a≤a:=by
 have h:=isq_le a;rcases Nat.eq_zero_or_pos (isq a) with h0 | h0
 ·omega
 ·exact Nat.le_trans (Nat.le_mul_of_pos_left _ h0) h
theorem sqrtS_z {a:Nat} (h:VZ n l (a:Int)):sqrtS n l=(wOf (isq a:Nat),0):=by
 have hn:n=false:=(by rw [h.neg_eq,decide_eq_false_iff_not]; omega);unfold sqrtS;rw [h.good,if_neg (by simp),hn,if_neg (by simp),h.val_eq,Int.natAbs_natCast,outN_false,outZ_is (fit_mono (b:=(a:Int)) ?_ h.2)];rw [Int.natAbs_natCast,Int.natAbs_natCast];exact isq_self_le a
theorem powS_z {k:Nat} (h:VZ n l x) (hk:k≤1000) (hf:fitZ (x ^ k)):powS n l (k:Int)=(wOf (x ^ k),0):=by
 rw [powS_good h.good hk,h.zv_eq,outZ_is hf]
end
end Go.Proofs.YtgnjhlnolihgcaaGreat
namespace Go.Proofs.YtgnjhlnolihgcaaGreat
def dg (k:Nat):UInt8:=UInt8.ofNat (48+k % 10)
end Go.Proofs.YtgnjhlnolihgcaaGreat
namespace Go.Proofs.YtgnjhlnolihgcaaGreat
open Go.Lib
end Go.Proofs.YtgnjhlnolihgcaaGreat
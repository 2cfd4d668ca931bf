import Derived.Test.YtgnjhlnolihgcaaGreatMath
import Derived.Lib.TrimByte
namespace Go.Proofs.YtgnjhlnolihgcaaGreat
def gcdS (n1:Bool) (l1:List Nat) (n2:Bool) (l2:List Nat):(Bool × List Nat) × Int:=if badL n1 l1 || badL n2 l2 then ((false,[]),8) else outN false (Nat.gcd (val l1) (val l2))
theorem gcd_step (x y:Nat):Nat.gcd y (x % y)=Nat.gcd x y:=by
 rw [Nat.gcd_comm y,← Nat.gcd_rec,Nat.gcd_comm]
theorem gcd_end {x y:List Nat} (h:¬ 0 < y.length):Nat.gcd (val x) (val y)=val x:=by
 obtain rfl:y=[]:=List.eq_nil_of_length_eq_zero (by omega);simp [val]
theorem mod_len {x y:List Nat} (hy:Canon y) (h:0 < y.length):(limbs (val x % val y)).length≤y.length:=
 q1b (q0r _) hy (by rw [q0j]; exact Nat.le_of_lt (Nat.mod_lt _ (q0i hy h)))
end Go.Proofs.YtgnjhlnolihgcaaGreat
namespace Go.Proofs.YtgnjhlnolihgcaaGreat
def fitZ (z:Int):Prop:=(limbs z.natAbs).length≤4096
theorem q1f {a b:Int} (h:a.natAbs≤b.natAbs) (hb:fitZ b):fitZ a:=by
 unfold fitZ at *;exact fit_le (q0r b.natAbs) hb (by rw [q0j]; exact h)
theorem fit_one:fitZ 1:=by
 unfold fitZ;exact Nat.le_trans (Nat.le_of_eq (show (limbs (1:Int).natAbs).length=1 by rfl)) (by omega)
theorem outZ_is {z:Int} (h:fitZ z):outZ z=(wOf z,0):=outZ_fit h
end Go.Proofs.YtgnjhlnolihgcaaGreat
namespace Go.Proofs.YtgnjhlnolihgcaaGreat
end Go.Proofs.YtgnjhlnolihgcaaGreat
namespace Go.Proofs.YtgnjhlnolihgcaaGreat
def VZ (n:Bool) (l:List Nat) (z:Int):Prop:=(n,l)=wOf z∧fitZ z
theorem vz_of {n:Bool} {l:List Nat} (hl:Lim l) (h:badL n l=false):VZ n l (zv n l):=good_wOf hl h
theorem vz_wOf {z:Int} (h:fitZ z):VZ (wOf z).1 (wOf z).2 z:=⟨rfl,h⟩
theorem vz_mk {n:Bool} {l:List Nat} {z:Int} (e:(n,l)=wOf z) (h:fitZ z):VZ n l z:=⟨e,h⟩
section
variable {n n1 n2:Bool} {l l1 l2:List Nat} {x y z:Int}
theorem VZ.good (h:VZ n l z):badL n l=false:=by
 obtain ⟨e,f⟩:=h;obtain ⟨rfl,rfl⟩:=Prod.mk.inj e;exact wOf_good z f
theorem VZ.val_eq (h:VZ n l z):val l=z.natAbs:=by
 obtain ⟨e,f⟩:=h;obtain ⟨rfl,rfl⟩:=Prod.mk.inj e;exact q0j _
theorem VZ.zv_eq (h:VZ n l z):zv n l=z:=by
 obtain ⟨e,f⟩:=h;obtain ⟨rfl,rfl⟩:=Prod.mk.inj e;exact zv_wOf z
theorem VZ.canon (h:VZ n l z):Canon l:=by
 obtain ⟨e,f⟩:=h;obtain ⟨rfl,rfl⟩:=Prod.mk.inj e;exact q0r _
theorem VZ.neg_eq (h:VZ n l z):n=decide (z < 0):=by
 obtain ⟨e,f⟩:=h;obtain ⟨rfl,rfl⟩:=Prod.mk.inj e;rfl
theorem VZ.limbs_eq (h:VZ n l z):l=limbs z.natAbs:=by
 obtain ⟨e,f⟩:=h;obtain ⟨rfl,rfl⟩:=Prod.mk.inj e;rfl
theorem VZ.len (h:VZ n l z):l.length≤4096:=by rw [h.limbs_eq]; exact h.2
theorem VZ.zero (h:VZ n l z):l.length=0 ↔ z=0:=by
 rw [h.limbs_eq,List.length_eq_zero_iff,limbs_eq_nil]; omega
theorem VZ.pos (h:VZ n l z):0 < l.length ↔ z≠0:=by
 rw [Nat.pos_iff_ne_zero,ne_eq,h.zero]
theorem VZ.chk (h:VZ n l z):chk n l=0:=chk_good h.good
theorem VZ.inj (h:VZ n1 l1 z) (k:VZ n2 l2 z):(n1,l1)=(n2,l2):=h.1.trans k.1.symm
theorem VZ.lt (h:VZ n l z):z.natAbs < 4294967296 ^ l.length:=by
 have:=val_lt h.canon.1;rwa [h.val_eq] at this
theorem q1e {k:Nat} (h:z.natAbs < 4294967296 ^ k) (hk:k≤4096):fitZ z:=Nat.le_trans (limbs_len_le.2 h) hk
theorem outN_false (n:Nat):outN false n=outZ (n:Int):=by rw [outN_zv]; rfl
theorem addS_z (h1:VZ n1 l1 x) (h2:VZ n2 l2 y) (hf:fitZ (x+y)):addS n1 l1 n2 l2=(wOf (x+y),0):=by
 unfold addS;rw [h1.good,h2.good,if_neg (by simp),h1.zv_eq,h2.zv_eq,outZ_is hf]
theorem mulS_z (h1:VZ n1 l1 x) (h2:VZ n2 l2 y) (hf:fitZ (x * y)):mulS n1 l1 n2 l2=(wOf (x * y),0):=by
 unfold mulS;rw [h1.good,h2.good,if_neg (by simp),h1.zv_eq,h2.zv_eq,outZ_is hf]
theorem negS_z (h:VZ n l x):negS n l=(wOf (-x),0):=by
 unfold negS
 have e:(if !n then -((val l:Nat):Int) else ((val l:Nat):Int)) = -x:=by
  rw [← h.zv_eq]; unfold zv; cases n <;> simp
 rw [h.good,if_neg (by simp),outN_zv,e,outZ_is (by unfold fitZ; rw [Int.natAbs_neg]; exact h.2)]
theorem cmpS_z (h1:VZ n1 l1 x) (h2:VZ n2 l2 y):cmpS n1 l1 n2 l2=(cmpZ x y,0):=by
 unfold cmpS;rw [h1.good,h2.good,if_neg (by simp),h1.zv_eq,h2.zv_eq]
theorem gcdS_z (h1:VZ n1 l1 x) (h2:VZ n2 l2 y) (hf:fitZ (Int.gcd x y)):gcdS n1 l1 n2 l2=(wOf (Int.gcd x y),0):=by
 unfold gcdS;rw [h1.good,h2.good,if_neg (by simp),outN_false,h1.val_eq,h2.val_eq];exact outZ_is hf
theorem fit_gcd (h1:fitZ x) (h2:fitZ y):fitZ (Int.gcd x y):=by
 by_cases hx:x=0
 ·subst hx;rw [Int.gcd_zero_left];exact q1f (by simp) h2
 ·refine q1f (b:=x) ?_ h1;rw [Int.natAbs_natCast];exact Nat.le_of_dvd (by omega) (Int.gcd_dvd_natAbs_left x y)
theorem vz_gcd (h1:VZ n1 l1 x) (h2:VZ n2 l2 y):gcdS n1 l1 n2 l2=(wOf (Int.gcd x y),0):=gcdS_z h1 h2 (fit_gcd h1.2 h2.2)
theorem div_uniq {q r:Int} (hy:y≠0) (h:q * y+r=x) (hr:(0 < y→0≤r∧r < y)∧(y < 0→r≤0∧y < r)):q=x.fdiv y∧r=x.fmod y:=by
 have h1:=Int.mul_fdiv_add_fmod x y
 have key:∀ a:Int,a * y+r=x→∀ b s:Int,b * y+s=x→(0 < y→0≤s∧s < y)∧(y < 0→s≤0∧y < s)→a=b:=by
  intro a ha b s hb hs;have e:(a - b) * y=s - r:=(by rw [Int.sub_mul]; omega);rcases Int.lt_trichotomy (a - b) 0 with h0 | h0 | h0
  ·exfalso
   rcases Int.lt_or_gt_of_ne hy with hy0 | hy0
   ·have:=hr.2 hy0; have:=hs.2 hy0;have:(a - b) * y ≥ (-1) * y:=Int.mul_le_mul_of_nonpos_right (by omega) (by omega);omega
   ·have:=hr.1 hy0; have:=hs.1 hy0;have:(a - b) * y≤(-1) * y:=Int.mul_le_mul_of_nonneg_right (by omega) (by omega);omega
  ·omega
  ·exfalso
   rcases Int.lt_or_gt_of_ne hy with hy0 | hy0
   ·have:=hr.2 hy0; have:=hs.2 hy0;have:(a - b) * y≤1 * y:=Int.mul_le_mul_of_nonpos_right (by omega) (by omega);omega
   ·have:=hr.1 hy0; have:=hs.1 hy0;have:(a - b) * y ≥ 1 * y:=Int.mul_le_mul_of_nonneg_right (by omega) (by omega);omega
 have hm:(0 < y→0≤x.fmod y∧x.fmod y < y)∧(y < 0→x.fmod y≤0∧y < x.fmod y):=by
  constructor
  ·intro h0;exact ⟨Int.fmod_nonneg_of_pos x h0,Int.fmod_lt_of_pos x h0⟩
  ·intro h0;have e:(-x).fmod (-y) = -x.fmod y:=Int.neg_fmod_neg x y;have h2:=Int.fmod_nonneg_of_pos (-x) (show 0 < -y by omega);have h3:=Int.fmod_lt_of_pos (-x) (show 0 < -y by omega);omega
 have hq:=key q h (x.fdiv y) (x.fmod y) (by rw [Int.mul_comm]; exact h1) hm;exact ⟨hq,by rw [hq,Int.mul_comm] at h; omega⟩
theorem dmS_z (h1:VZ n1 l1 x) (h2:VZ n2 l2 y) (hy:y≠0):dmS n1 l1 n2 l2=(wOf (x.fdiv y),wOf (x.fmod y),0):=by
 have hl:0 < l2.length:=h2.pos.2 hy;have hv:0 < val l2:=q0i h2.canon hl;obtain ⟨e1,e2⟩:=dm_law (n1:=n1) (n2:=n2) (l1:=l1) hv;have e3:0≤(drN n1 (val l1) n2 (val l2):Int):=(by omega);unfold dmS;rw [h1.good,h2.good,if_neg (by simp),if_neg (by omega)];have hva:=h2.val_eq;rw [h1.zv_eq,h2.zv_eq] at e1;have hn:=h2.neg_eq
 have hr:(0 < y→0≤drZ n1 (val l1) n2 (val l2)∧drZ n1 (val l1) n2 (val l2) < y)∧(y < 0→drZ n1 (val l1) n2 (val l2)≤0∧y < drZ n1 (val l1) n2 (val l2)):=by
  unfold drZ;constructor
  ·intro h0;have hf:¬ (n2=true):=(by rw [hn,decide_eq_true_eq]; omega);rw [if_neg hf];omega
  ·intro h0;have hf:n2=true:=(by rw [hn,decide_eq_true_eq]; omega);rw [if_pos hf];omega
 obtain ⟨a,b⟩:=div_uniq hy e1 hr;rw [a,b]
theorem fit_fdiv (h:fitZ x):fitZ (x.fdiv y):=by
 by_cases hy:y=0
 ·subst hy; rw [Int.fdiv_zero]; exact q1f (by simp) h
 ·refine q1f (b:=x) ?_ h
  have key:∀ a b:Int,0 < b→(a.fdiv b).natAbs≤a.natAbs:=fun a b hb=>by
   rw [Int.fdiv_eq_ediv_of_nonneg a (by omega)];exact Int.natAbs_ediv_le_natAbs a b
  rcases Int.lt_or_gt_of_ne hy with h0 | h0
  ·have:=key (-x) (-y) (by omega);rwa [Int.neg_fdiv_neg,Int.natAbs_neg] at this
  ·exact key x y h0
theorem fmod_bd (hy:y≠0):(x.fmod y).natAbs < y.natAbs:=by
 rcases Int.lt_or_gt_of_ne hy with h0 | h0
 ·have e:(-x).fmod (-y) = -x.fmod y:=Int.neg_fmod_neg x y;have h2:=Int.fmod_nonneg_of_pos (-x) (show 0 < -y by omega);have h3:=Int.fmod_lt_of_pos (-x) (show 0 < -y by omega);omega
 ·have h2:=Int.fmod_nonneg_of_pos x h0;have h3:=Int.fmod_lt_of_pos x h0;omega
theorem fit_fmod (hy:y≠0) (h:fitZ y):fitZ (x.fmod y):=q1f (Nat.le_of_lt (fmod_bd hy)) h
end
end Go.Proofs.YtgnjhlnolihgcaaGreat
namespace Go.Proofs.YtgnjhlnolihgcaaGreat
theorem lt_sum {a b k:Nat} (ha:a < 4294967296 ^ k) (hb:b < 4294967296 ^ k):a+b < 4294967296 ^ (k+1):=by
 rw [Nat.pow_succ]; omega
end Go.Proofs.YtgnjhlnolihgcaaGreat
namespace Go.Proofs.YtgnjhlnolihgcaaGreat
section
variable {n n1 n2:Bool} {l l1 l2:List Nat} {x y z:Int}
theorem mul_lt {a b i j:Nat} (ha:a < 4294967296 ^ i) (hb:b < 4294967296 ^ j):a * b < 4294967296 ^ (i+j):=by
 rw [Nat.pow_add];exact Nat.mul_lt_mul'' ha hb
end
end Go.Proofs.YtgnjhlnolihgcaaGreat
namespace Go.Proofs.YtgnjhlnolihgcaaGreat
def dg (k:Nat):UInt8:=UInt8.ofNat (48+k % 10)
theorem ten_pow_lt {k m:Nat} (h:k≤3000) (hm:m=400):10 ^ k < 4294967296 ^ m:=by
 have h1:10 ^ k≤2 ^ (4 * k):=(by rw [Nat.pow_mul]; exact Nat.pow_le_pow_left (by decide) k);have h4:4294967296 ^ m=2 ^ (32 * m):=(by rw [Nat.pow_mul]);rw [h4];exact Nat.lt_of_le_of_lt h1 (Nat.pow_lt_pow_right (by omega) (by omega))
end Go.Proofs.YtgnjhlnolihgcaaGreat
namespace Go.Proofs.YtgnjhlnolihgcaaGreat
open Go.Lib
end Go.Proofs.YtgnjhlnolihgcaaGreat
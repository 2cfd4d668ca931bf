import Derived.Test.YtgnjhlnolihgcaaGreatMg17
import Derived.Test.YtgnjhlnolihgcaaGreatF24
namespace Go.Proofs.YtgnjhlnolihgcaaGreat
open Go.RowKit
theorem fit4 {z:Int} (h:z.natAbs < 340282366920938463463374607431768211456):fitZ z:=q1q (k:=4) h (by omega)
theorem wadd_z {x y:Int} (fx:fitZ x) (fy:fitZ y) (fs:fitZ (x+y)) (A1 A2:Option Addr) (c1 c2:Nat) (w:World) (s1:Sl w A1 (wOf x).2 c1) (s2:Sl w A2 (wOf y).2 c2) :
  Calls Tryz.prog 134 #[.agg #[.bool (wOf x).1,.slice A1 (wOf x).2.length c1],.agg #[.bool (wOf y).1,.slice A2 (wOf y).2.length c2]] w (WRes (wOf (x+y),0) w):=by
 have h:=wadd_any (wOf x).1 (wOf y).1 A1 A2 _ _ c1 c2 w s1 s2;rwa [addS_z (q0p fx) (q0p fy) fs] at h
theorem wmul_z {x y:Int} (fx:fitZ x) (fy:fitZ y) (fs:fitZ (x * y)) (A1 A2:Option Addr) (c1 c2:Nat) (w:World) (s1:Sl w A1 (wOf x).2 c1) (s2:Sl w A2 (wOf y).2 c2) :
  Calls Tryz.prog 72 #[.agg #[.bool (wOf x).1,.slice A1 (wOf x).2.length c1],.agg #[.bool (wOf y).1,.slice A2 (wOf y).2.length c2]] w (WRes (wOf (x * y),0) w):=by
 have h:=wmul_any (wOf x).1 (wOf y).1 A1 A2 _ _ c1 c2 w s1 s2;rwa [mulS_z (q0p fx) (q0p fy) fs] at h
theorem make_z {x y:Int} (fx:fitZ x) (fy:fitZ y) (hy:y≠0) (A1 A2:Option Addr) (c1 c2:Nat) (w:World) (s1:Sl w A1 (wOf x).2 c1) (s2:Sl w A2 (wOf y).2 c2) :
  Calls Tryz.prog 63 #[.agg #[.bool (wOf x).1,.slice A1 (wOf x).2.length c1],.agg #[.bool (wOf y).1,.slice A2 (wOf y).2.length c2]] w (FRes (frQ (Rat.divInt x y),0) w):=by
 have h:=make_any (wOf x).1 (wOf y).1 A1 A2 _ _ c1 c2 w s1 s2;rwa [make_good (q0p fx) (q0p fy),of_q hy] at h
theorem ceilZ_ceil (q:Rat):ceilZ q.num q.den=q.ceil:=by
 have hd:=q0t q;obtain ⟨h1,h2,h3⟩:=dm_parts (x:=q.num) hd;have e:=div_mul (a:=q.num) hd;rw [Rat.num_divInt_den] at e;have hdR:(0:Rat) < ((q.den:Int):Rat):=by exact_mod_cast hd
 have key:∀ z:Int,ceilZ q.num q.den≤z ↔ q.ceil≤z:=fun z=>by
  rw [Rat.ceil_le_iff]
  have a:q≤(z:Rat) ↔ q.num≤(q.den:Int) * z:=by
   rw [← Rat.intCast_le_intCast,Rat.intCast_mul,← e];constructor
   ·intro h;have:=Rat.mul_le_mul_of_nonneg_left h (Rat.le_of_lt hdR);rwa [Rat.mul_comm _ q] at this
   ·intro h;apply Rat.not_lt.1
    intro h4;have:=Rat.mul_pos (a:=((q.den:Int):Rat)) (b:=q - z) hdR (by grind);grind
  rw [a];unfold ceilZ;generalize q.num.fdiv q.den=f at *;generalize q.num.fmod q.den=r at *;generalize q.num=x at *;generalize (q.den:Int)=y at *;clear a e;subst h3;split
  ·rename_i h0
   subst h0;rw [Int.add_zero];exact ⟨fun h=>Int.mul_le_mul_of_nonneg_left h (by omega),fun h=>Int.le_of_mul_le_mul_left h hd⟩
  ·rename_i h0
   constructor
   ·intro h;have:=Int.mul_le_mul_of_nonneg_left h (show (0:Int)≤y by omega);rw [Int.mul_add,Int.mul_one] at this;omega
   ·intro h;have h5:y * f < y * z:=(by omega);have:=Int.lt_of_mul_lt_mul_left h5 (show (0:Int)≤y by omega);omega
 have a:=(key (ceilZ q.num q.den)).1 (Int.le_refl _);have b:=(key q.ceil).2 (Int.le_refl _);omega
theorem ceil_q {q:Rat} {k:Nat} (hq:Few k q) (hk:k≤4096) (A B:Option Addr) (c d:Nat) (w:World) (s:Sl w A (frQ q).1.2 c) (t:Sl w B (frQ q).2.2 d) :
  Calls Tryz.prog 169 #[.agg #[.bool (frQ q).1.1,.slice A (frQ q).1.2.length c,.bool (frQ q).2.1,.slice B (frQ q).2.2.length d]] w (WRes (wOf q.ceil,0) w):=by
 have h:=fceil_any (frQ q).1.1 (frQ q).2.1 A B _ _ c d w s t;have v:=few_vf hq hk
 have e:fceilS (frQ q).1.1 (frQ q).1.2 (frQ q).2.1 (frQ q).2.2=(wOf q.ceil,0):=by
  unfold fceilS;have f1:fitZ q.num:=q1q hq.1 hk;have f2:fitZ (q.den:Int):=q1q hq.2 hk;rw [v.vf.good,if_neg (by simp)];have z1:zv (frQ q).1.1 (frQ q).1.2=q.num:=(q0p f1).zv_eq;have z2:zv (frQ q).2.1 (frQ q).2.2=q.den:=(q0p f2).zv_eq;rw [z1,z2,ceilZ_ceil]
 rwa [e] at h
theorem int_z {z:Int} (h1 : -9223372036854775808≤z) (h2:z≤9223372036854775807) (A:Option Addr) (c:Nat) (w:World) (s:Sl w A (wOf z).2 c) :
  Calls Tryz.prog 103 #[.agg #[.bool (wOf z).1,.slice A (wOf z).2.length c]] w fun e w'=>e=.returned (.tuple #[.int .i64 z,.int .i64 0])∧Below w.heap.size w w':=by
 have h:=int_any (wOf z).1 A _ c w s
 have e:intS (wOf z).1 (wOf z).2=(z,0):=by
  have vw:=q0p (q1q (k:=2) (z:=z) (by omega) (by omega));unfold intS;rw [vw.good,vw.zv_eq,if_neg (by simp),if_pos ⟨h1,h2⟩]
 rwa [e] at h
theorem swZ_bd {l:List Int} (h:listB l=true):∀ k,k≤6→0≤swZ l k∧swZ l k≤k * 28147497671065600
 | 0,_=>⟨Int.le_refl _,Int.le_refl _⟩
 | k+1,hk=>by
  obtain ⟨h1,h2⟩:=swZ_bd h k (by omega);have t:=term_bd h k
  have hkk:k * k≤25:=by
   have:k≤5:=by omega
   calc k * k≤5 * 5:=Nat.mul_le_mul this this
    _=25:=rfl
  have hn:(l.getD k 0).natAbs≤1125899906842624:=(by omega);have hm:(k * k) * (l.getD k 0).natAbs≤25 * 1125899906842624:=Nat.mul_le_mul hkk hn;have e:((k * k:Nat):Int) * ((l.getD k 0).natAbs:Int)=(((k * k) * (l.getD k 0).natAbs:Nat):Int):=(by push_cast; rfl);unfold swZ;rw [e];generalize (k * k) * (l.getD k 0).natAbs=m at *;omega
theorem swI_bd {l:List Int} {n long:Int} (h:listB l=true) (h6:l.length≤6) (n0:0≤n) (n1:n≤2 * long) (l0:0 < long):0≤swI l n long∧swI l n long≤337769972052787200:=by
 obtain ⟨s0,s1⟩:=swZ_bd h l.length h6
 have hS:swZ l l.length≤168884986026393600:=by
  have:(l.length:Int) * 28147497671065600≤6 * 28147497671065600:=(by omega);omega
 have e:=div_mul (a:=swZ l l.length * n) l0;have hR:(0:Rat) < ((long:Int):Rat):=(by exact_mod_cast l0);unfold swI;generalize swZ l l.length=S at *
 have hm:S * n≤long * 337769972052787200:=by
  have a1:S * n≤S * (2 * long):=Int.mul_le_mul_of_nonneg_left n1 s0;have a2:S * (2 * long)≤168884986026393600 * (2 * long):=Int.mul_le_mul_of_nonneg_right hS (by omega);omega
 have hp:0≤S * n:=Int.mul_nonneg s0 n0;clear s0 s1 hS n0 n1;generalize S * n=p at *;constructor
 ·have h1:(0:Rat)≤Rat.divInt p long:=by
   apply Rat.not_lt.1
   intro hlt;have q:=Rat.mul_pos (a:=((long:Int):Rat)) (b:=0 - Rat.divInt p long) hR (by grind);have hp':((0:Int):Rat)≤((p:Int):Rat):=Rat.intCast_le_intCast.2 hp;have z:((0:Int):Rat)=0:=rfl;rw [z] at hp';grind
  have h2:=(Rat.ceil_le_iff (x:=Rat.divInt p long) (y:=(Rat.divInt p long).ceil)).1 (Int.le_refl _);have h3:((0:Int):Rat)≤(((Rat.divInt p long).ceil:Int):Rat):=Rat.le_trans h1 h2;exact Rat.intCast_le_intCast.1 h3
 ·refine Rat.ceil_le_iff.2 ?_;apply Rat.not_lt.1
  intro hlt;have q:=Rat.mul_pos (a:=((long:Int):Rat)) (b:=Rat.divInt p long - ((337769972052787200:Int):Rat)) hR (by grind);have hp':((p:Int):Rat)≤((long * 337769972052787200:Int):Rat):=Rat.intCast_le_intCast.2 hm;rw [Rat.intCast_mul] at hp';generalize ((337769972052787200:Int):Rat)=M at *;grind
end Go.Proofs.YtgnjhlnolihgcaaGreat
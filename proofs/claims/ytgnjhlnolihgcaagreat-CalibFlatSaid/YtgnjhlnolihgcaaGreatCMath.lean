import Derived.Test.YtgnjhlnolihgcaaGreatRegI
import Derived.Test.YtgnjhlnolihgcaaGreatF16
namespace Go.Proofs.YtgnjhlnolihgcaaGreat
theorem two33 {a:Int} (h1 : -4294967296≤a) (h2:a≤4294967296):a.natAbs < 4294967296 ^ 2:=by omega
theorem vfk_whole {a:Int} (h:a.natAbs < 4294967296 ^ 2):VFk 2 (wOf a).1 (wOf a).2 (wOf 1).1 (wOf 1).2 a 1:=
 ⟨⟨vz_wOf (q1e h (by omega)),vz_wOf fit_one,by decide,Int.gcd_one_right a⟩,h,by decide⟩
theorem calib_facts {r b d f E D S N:Int} (r1 : -4294967296≤r) (r2:r≤4294967296) (b1 : -4294967296≤b) (b2:b≤4294967296) (d1 : -4294967296≤d) (d2:d≤4294967296) (f1:0 < f) (f2:f≤4294967296)
  (E1:0≤E) (E2:E≤1000000) (D1:1≤D) (D2:D≤1000000) (S1:0 < S) (S2:S≤70368744177664) (N1:0 < N) (N2:N≤10000) :
  ∃ P Q R m1 s m2 p1:(Bool × List Nat) × (Bool × List Nat),∃ z:Int,redZ E D=P∧redZ S N=Q∧redZ ((r - b) * D - d * E) (D * f)=p1 ∧
   bothF (wOf d).1 (wOf d).2 (wOf 1).1 (wOf 1).2 P.1.1 P.1.2 P.2.1 P.2.2 mulV=(m1,0) ∧
   bothF (wOf (r - b)).1 (wOf (r - b)).2 (wOf 1).1 (wOf 1).2 m1.1.1 m1.1.2 m1.2.1 m1.2.2 subV=(s,0) ∧
   bothF s.1.1 s.1.2 s.2.1 s.2.2 Q.1.1 Q.1.2 Q.2.1 Q.2.2 mulV=(m2,0) ∧
   bothF m2.1.1 m2.1.2 m2.2.1 m2.2.2 (wOf f).1 (wOf f).2 (wOf 1).1 (wOf 1).2 divV=(R,0) ∧
   bothF p1.1.1 p1.1.2 p1.2.1 p1.2.2 Q.1.1 Q.1.2 Q.2.1 Q.2.2 mulV=(R,0) ∧
   z=rndS (((r - b) * D - d * E) * S) (D * f * N)∧froundS R.1.1 R.1.2 R.2.1 R.2.2=(wOf z,0)∧fitZ z ∧
   (badF R.1.1 R.1.2 R.2.1 R.2.2=false→fitZ ((zv R.1.1 R.1.2).fmod (zv R.2.1 R.2.2)+(zv R.1.1 R.1.2).fmod (zv R.2.1 R.2.2))):=by
 have hd:=vfk_whole (two33 d1 d2);have hf:=vfk_whole (two33 (by omega : -4294967296≤f) f2);have hrb:=vfk_whole (a:=r - b) (by omega);obtain ⟨x1,y1,vP,eP⟩:=red_few (a:=E) (b:=D) (k:=1) (by omega) (by omega) (by omega) (by omega);obtain ⟨x2,y2,vQ,eQ⟩:=red_few (a:=S) (b:=N) (k:=2) (by omega) (by omega) (by omega) (by omega);have p1:=vP.vf.pos;have p2:=vQ.vf.pos;obtain ⟨u1,v1,w1,e1⟩:=red_few (a:=d * x1) (b:=1 * y1) (k:=3) (by omega) (q0l hd.hx vP.hx) (lt_up (q0l hd.hy vP.hy) (by omega)) (by omega);have q1:=w1.vf.pos;obtain ⟨u2,v2,w2,e2⟩:=red_few (a:=(r - b) * v1 - u1 * 1) (b:=1 * v1) (k:=6) (by omega) (sub_few (k:=5) (q0l hrb.hx w1.hy) (lt_up (q0l w1.hx hrb.hy) (by omega))) (lt_up (q0l hrb.hy w1.hy) (by omega)) (by omega);have q2:=w2.vf.pos;obtain ⟨u3,v3,w3,e3⟩:=red_few (a:=u2 * x2) (b:=v2 * y2) (k:=8) (Int.mul_ne_zero (by omega) (by omega)) (q0l w2.hx vQ.hx) (q0l w2.hy vQ.hy) (by omega);have q3:=w3.vf.pos;have hnum:((r - b) * D - d * E).natAbs < 4294967296 ^ 4:=sub_few (k:=3) (q0l hrb.hx (j:=1) (by omega)) (q0l hd.hx (j:=1) (by omega));have hden:(D * f).natAbs < 4294967296 ^ 4:=lt_up (k:=3) (by have:=q0l (k:=1) (j:=2) (a:=D) (b:=f) (by omega) hf.hx; exact this) (by omega);have hDf:0 < D * f:=Int.mul_pos (by omega) f1;obtain ⟨a1,c1,w4,e4⟩:=red_few (a:=(r - b) * D - d * E) (b:=D * f) (k:=4) (by omega) hnum hden (by omega);have q4:=w4.vf.pos;have hDfN:0 < D * f * N:=Int.mul_pos hDf N1;have hX:(((r - b) * D - d * E) * S).natAbs < 4294967296 ^ 6:=q0l hnum (j:=2) (by omega);have hY:(D * f * N).natAbs < 4294967296 ^ 6:=q0l hden (j:=2) (by omega);obtain ⟨a,c,vR,-⟩:=red_few (a:=((r - b) * D - d * E) * S) (b:=D * f * N) (k:=6) (by omega) hX hY (by omega);have pR:=vR.vf.pos;have hcy:=vR.hy
 have key1:u1 * D=d * E * v1:=by
  refine Int.eq_of_mul_eq_mul_left (a:=y1) (by omega) ?_;grind
 have key2:u2 * D=((r - b) * D - d * E) * v2:=by
  refine Int.eq_of_mul_eq_mul_left (a:=v1) (by omega) ?_;grind
 have key3:u3 * N * v2=u2 * S * v3:=by
  refine Int.eq_of_mul_eq_mul_left (a:=y2) (by omega) ?_;grind
 have key4:u3 * (D * N)=((r - b) * D - d * E) * S * v3:=by
  refine Int.eq_of_mul_eq_mul_left (a:=v2) (by omega) ?_;grind
 refine ⟨_,_,redZ (((r - b) * D - d * E) * S) (D * f * N),_,_,_,_,_,rfl,rfl,rfl,(both_good hd.vf vP.vf).trans (mul_good hd vP (by omega)),(both_good hrb.vf w1.vf).trans (sub_good hrb w1 (by omega)),(both_good w2.vf vQ.vf).trans (mul_good w2 vQ (by omega)),?_,?_,rfl,?_,?_,?_⟩
 ·rw [both_good w3.vf hf.vf,div_good w3 hf (by omega) (by omega)];rw [red_eq (x:=u3 * 1) (y:=v3 * f) (u:=((r - b) * D - d * E) * S) (v:=D * f * N) (Int.mul_ne_zero (by omega) (by omega)) (by omega) (by grind)]
 ·rw [both_good w4.vf vQ.vf,mul_good w4 vQ (by omega)];rw [red_eq (x:=a1 * x2) (y:=c1 * y2) (u:=((r - b) * D - d * E) * S) (v:=D * f * N) (Int.mul_ne_zero (by omega) (by omega)) (by omega) (by grind)]
 ·unfold froundS;rw [vR.vf.good,if_neg (by simp)];rfl
 ·unfold rndS;rw [vR.vf.num.zv_eq,vR.vf.den.zv_eq];exact round_fit pR vR.vf.num.2
 ·intro _;rw [vR.vf.num.zv_eq,vR.vf.den.zv_eq];obtain ⟨g1,g2,-⟩:=dm_parts (x:=a) pR;have:=lt_sum hcy hcy;exact q1e (k:=7) (by omega) (by omega)
end Go.Proofs.YtgnjhlnolihgcaaGreat
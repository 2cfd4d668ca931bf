import Derived.Test.YtgnjhlnolihgcaaGreatCalF
namespace Go.Proofs.YtgnjhlnolihgcaaGreat
open Go.RowKit
theorem ofS_red {x y:Int} (hy:y≠0):ofS x y=(redZ x y,0):=by unfold ofS; rw [if_neg hy]
theorem ofS_whole {a:Int} (h1 : -9223372036854775808≤a) (h2:a≤9223372036854775807):ofS a 1=((wOf a,wOf 1),0):=by
 rw [ofS_red (by decide),(vfk_whole (a:=a) (by omega)).vf.red]
theorem exact_chain {r b d f E D S N:Int} (r1 : -4294967296≤r) (r2:r≤4294967296) (b1 : -4294967296≤b) (b2:b≤4294967296) (d1 : -4294967296≤d) (d2:d≤4294967296) (f1:0 < f) (f2:f≤4294967296)
  (E1:0≤E) (E2:E≤1000000) (D1:1≤D) (D2:D≤1000000) (S1:0 < S) (S2:S≤70368744177664) (N1:0 < N) (N2:N≤10000) :
  ∃ P Q m1 s m2:(Bool × List Nat) × (Bool × List Nat),ofS E D=(P,0)∧ofS S N=(Q,0) ∧
   q0m (wOf d).1 (wOf d).2 (wOf 1).1 (wOf 1).2 P.1.1 P.1.2 P.2.1 P.2.2 mulV=(m1,0) ∧
   q0m (wOf (r - b)).1 (wOf (r - b)).2 (wOf 1).1 (wOf 1).2 m1.1.1 m1.1.2 m1.2.1 m1.2.2 subV=(s,0) ∧
   q0m s.1.1 s.1.2 s.2.1 s.2.2 Q.1.1 Q.1.2 Q.2.1 Q.2.2 mulV=(m2,0) ∧
   q0m m2.1.1 m2.1.2 m2.2.1 m2.2.2 (wOf f).1 (wOf f).2 (wOf 1).1 (wOf 1).2 divV=(redZ (((r - b) * D - d * E) * S) (D * f * N),0) ∧
   0 < D * f * N∧(((r - b) * D - d * E) * S).natAbs < 4294967296 ^ 6∧(D * f * N).natAbs < 4294967296 ^ 6:=by
 obtain ⟨P,Q,R,m1,s,m2,p1,z,hP,hQ,hp,e1,e2,e3,e4,e5,-⟩:=calib_facts r1 r2 b1 b2 d1 d2 f1 f2 E1 E2 D1 D2 S1 S2 N1 N2;have hd:=vfk_whole (two33 d1 d2);have hrb:=vfk_whole (a:=r - b) (by omega);have hf:=vfk_whole (two33 (by omega : -4294967296≤f) f2);have hnum:((r - b) * D - d * E).natAbs < 4294967296 ^ 4:=sub_few (k:=3) (q0o hrb.hx (j:=1) (by omega)) (q0o hd.hx (j:=1) (by omega));have hden:(D * f).natAbs < 4294967296 ^ 4:=lt_up (k:=3) (by have:=q0o (k:=1) (j:=2) (a:=D) (b:=f) (by omega) hf.hx; exact this) (by omega);have hDf:0 < D * f:=Int.mul_pos (by omega) f1;have hDfN:0 < D * f * N:=Int.mul_pos hDf N1;have hX:(((r - b) * D - d * E) * S).natAbs < 4294967296 ^ 6:=q0o hnum (j:=2) (by omega);have hY:(D * f * N).natAbs < 4294967296 ^ 6:=q0o hden (j:=2) (by omega);obtain ⟨a1,c1,w4,k4⟩:=red_few (a:=(r - b) * D - d * E) (b:=D * f) (k:=4) (by omega) hnum hden (by omega);obtain ⟨x2,y2,vQ,kQ⟩:=red_few (a:=S) (b:=N) (k:=2) (by omega) (by omega) (by omega) (by omega);have q4:=w4.vf.pos;have qQ:=vQ.vf.pos
 have eR:R=redZ (((r - b) * D - d * E) * S) (D * f * N):=by
  have h5:=e5;rw [← hp,← hQ,q1i w4.vf vQ.vf,mul_good w4 vQ (by omega)] at h5;rw [← (Prod.mk.inj h5).1];exact red_eq (Int.mul_ne_zero (by omega) (by omega)) (by omega) (by grind)
 refine ⟨P,Q,m1,s,m2,by rw [ofS_red (by omega),hP],by rw [ofS_red (by omega),hQ],e1,e2,e3,by rw [e4,eR],hDfN,hX,hY⟩
theorem near_facts {X Y z:Int} (hY:0 < Y) (hX:X.natAbs < 4294967296 ^ 6) (hYl:Y.natAbs < 4294967296 ^ 6) (hz:z=rndS X Y) (z1 : -4294967296≤z) (z2:z≤4294967296) :
  ∃ d g:(Bool × List Nat) × (Bool × List Nat),∃ r:Int,
   q0m (redZ X Y).1.1 (redZ X Y).1.2 (redZ X Y).2.1 (redZ X Y).2.2 (wOf z).1 (wOf z).2 (wOf 1).1 (wOf 1).2 subV=(d,0) ∧
   (d.1.1=true→negF d.1.1 d.1.2 d.2.1 d.2.2=(g,0))∧(d.1.1=false→g=d) ∧
   cmpF g.1.1 g.1.2 g.2.1 g.2.2 (wOf 1).1 (wOf 1).2 (wOf 2).1 (wOf 2).2=(r,0)∧r≤0:=by
 obtain ⟨a,b,vR,eR⟩:=red_few (a:=X) (b:=Y) (k:=6) (by omega) hX hYl (by omega);have hb:=vR.vf.pos;have hr:z=roundZ a b:=(by rw [hz]; unfold rndS; rw [vR.vf.num.zv_eq,vR.vf.den.zv_eq]);obtain ⟨n1,n2⟩:=cround_near (a:=a) hb;rw [← hr] at n1 n2;have vz:=vfk_whole (two33 z1 z2);have hzb:=q0o vz.hx vR.hy;obtain ⟨u,v,vd,ed⟩:=red_few (a:=a * 1 - z * b) (b:=b * 1) (k:=9) (by omega) (sub_few (k:=8) (by rw [Int.mul_one]; exact lt_up vR.hx (by omega)) hzb) (by rw [Int.mul_one]; exact lt_up vR.hy (by omega)) (by omega);have hv:=vd.vf.pos;have fu:fitZ (-u):=fit_mono (b:=u) (by simp) vd.vf.num.2;have vh:VF (wOf 1).1 (wOf 1).2 (wOf 2).1 (wOf 2).2 1 2:=⟨q1l fit_one,q1l (q1m (k:=1) (by decide) (by omega)),by decide,by decide⟩
 -- u / v = (a - z b) / b; its double is at most 1
 have key:2 * u * b=(2 * (a - z * b)) * v:=by
  rw [Int.mul_one,Int.mul_one] at ed;grind
 have hm:2 * b * z=2 * (z * b):=(by grind);rw [hm] at n1 n2
 have c1:2 * u≤v:=by
  refine Int.le_of_mul_le_mul_right (a:=b) ?_ hb;rw [key];have:=Int.mul_le_mul_of_nonneg_right (a:=2 * (a - z * b)) (b:=b) (c:=v) (by omega) (Int.le_of_lt hv);rw [Int.mul_comm v b]; exact this
 have c2 : -v≤2 * u:=by
  refine Int.le_of_mul_le_mul_right (a:=b) ?_ hb;rw [key];have:=Int.mul_le_mul_of_nonneg_right (a:=-b) (b:=2 * (a - z * b)) (c:=v) (by omega) (Int.le_of_lt hv);have e : -v * b = -b * v:=(by grind);rw [e]; exact this
 refine ⟨redZ (a * 1 - z * b) (b * 1),if u < 0 then (wOf (-u),(redZ (a * 1 - z * b) (b * 1)).2) else redZ (a * 1 - z * b) (b * 1),if u < 0 then cmpZ (-u * 2) (1 * v) else cmpZ (u * 2) (1 * v),(q1i vR.vf vz.vf).trans (sub_good vR vz (by omega)),?_,?_,?_,?_⟩
 ·intro h;rw [vd.vf.num.neg_eq] at h;rw [negF_good vd.vf,if_pos (of_decide_eq_true h)]
 ·intro h;rw [vd.vf.num.neg_eq] at h;rw [if_neg (of_decide_eq_false h)]
 ·by_cases hu:u < 0
  ·rw [if_pos hu,if_pos hu];have vg:VF (wOf (-u)).1 (wOf (-u)).2 (redZ (a * 1 - z * b) (b * 1)).2.1 (redZ (a * 1 - z * b) (b * 1)).2.2 (-u) v:=⟨q1l fu,vd.vf.den,hv,by have:=vd.vf.one; rw [← this]; unfold Int.gcd; simp⟩;rw [cmpF_good vg vh];unfold cmpV;rw [fit_few (k:=10) (by have:=q0o (a:=-u) (b:=2) (k:=9) (j:=1) (by have:=vd.hx; simpa using this) (by decide); exact this) (by omega),fit_few (k:=9) (by rw [Int.one_mul]; exact vd.hy) (by omega)];rfl
  ·rw [if_neg hu,if_neg hu];rw [cmpF_good vd.vf vh];unfold cmpV;rw [fit_few (k:=10) (by have:=q0o (a:=u) (b:=2) (k:=9) (j:=1) vd.hx (by decide); exact this) (by omega),fit_few (k:=9) (by rw [Int.one_mul]; exact vd.hy) (by omega)];rfl
 ·split
  ·unfold cmpZ; split
   ·decide
   ·rw [if_neg (by omega)]; decide
  ·unfold cmpZ; split
   ·decide
   ·rw [if_neg (by omega)]; decide
theorem getP {l:List Int} (h:∀ x∈l,-4294967296≤x∧x≤4294967296) (i:Nat) : -4294967296≤l.getD i 0∧l.getD i 0≤4294967296:=by
 rw [List.getD_eq_getElem?_getD];rcases hh:l[i]? with _ | x
 ·simp
 ·simpa using h x (List.mem_of_getElem? hh)
theorem ap_cases {f1 f2 f3 f4:FD} {E D:Int} (h1:f1.chk=0) (h2:f2.chk=0) (h3:f3.chk=0) (h4:f4.chk=0) :
  (apOut f1 f2 f3 f4 E D=⟨0,0,[],[],2⟩∨apOut f1 f2 f3 f4 E D=⟨0,0,[],[],18⟩∨apOut f1 f2 f3 f4 E D=⟨0,0,[],[],16⟩) ∨
  (apOut f1 f2 f3 f4 E D=⟨f1.W,f1.H,pxL E D f1.l f2.l f3.l f4.l f1.l.length,bdL f4.l f1.l.length,0⟩∧ApOk f1 f2 f3 f4 E D∧cntP true f4.l≠0∧erL E D f1.l f2.l f3.l f4.l f1.l.length=false):=by
 by_cases ha:(aliB f1 f2 && aliB f1 f3 && aliB f1 f4 && decide (0≤E) && decide (E≤1000000) && decide (1≤D) && decide (D≤1000000))=true
 ·have hk:ApOk f1 f2 f3 f4 E D:=by
   simp only [Bool.and_eq_true,decide_eq_true_eq] at ha;obtain ⟨⟨⟨⟨⟨⟨a,b⟩,c⟩,d⟩,e⟩,f⟩,g⟩:=ha;exact ⟨h1,h2,h3,h4,a,b,c,d,e,f,g⟩
  rw [apOut_rest hk];by_cases hc:cntP true f4.l=0
  ·rw [if_pos hc]; exact .inl (.inr (.inl rfl))
  ·rw [if_neg hc]
   cases he:erL E D f1.l f2.l f3.l f4.l f1.l.length with
   | true=>exact .inl (.inr (.inr rfl))
   | false=>exact .inr ⟨rfl,hk,hc,rfl⟩
 ·refine .inl (.inl ?_);unfold apOut;rw [if_neg (by rw [vchk40 h1 h2 h3 h4]; simp),if_pos (by simpa using ha)]
theorem pix_good {f1 f2 f3 f4:FD} {E D:Int} (h:ApOk f1 f2 f3 f4 E D) (hc:cntP true f4.l≠0) (he:erL E D f1.l f2.l f3.l f4.l f1.l.length=false) {k:Nat} (hk:k < f1.l.length) (hF:0 < f4.l.getD k 0) :
  ∃ P Q m1 s m2 R d g:(Bool × List Nat) × (Bool × List Nat),∃ c:Int,ofS E D=(P,0)∧ofS (sumP true f4.l) (cntP true f4.l)=(Q,0) ∧
   q0m (wOf (f3.l.getD k 0)).1 (wOf (f3.l.getD k 0)).2 (wOf 1).1 (wOf 1).2 P.1.1 P.1.2 P.2.1 P.2.2 mulV=(m1,0) ∧
   q0m (wOf (f1.l.getD k 0 - f2.l.getD k 0)).1 (wOf (f1.l.getD k 0 - f2.l.getD k 0)).2 (wOf 1).1 (wOf 1).2 m1.1.1 m1.1.2 m1.2.1 m1.2.2 subV=(s,0) ∧
   q0m s.1.1 s.1.2 s.2.1 s.2.2 Q.1.1 Q.1.2 Q.2.1 Q.2.2 mulV=(m2,0) ∧
   q0m m2.1.1 m2.1.2 m2.2.1 m2.2.2 (wOf (f4.l.getD k 0)).1 (wOf (f4.l.getD k 0)).2 (wOf 1).1 (wOf 1).2 divV=(R,0) ∧
   ofS (pxAt E D f1.l f2.l f3.l f4.l k) 1=((wOf (pxAt E D f1.l f2.l f3.l f4.l k),wOf 1),0) ∧
   q0m R.1.1 R.1.2 R.2.1 R.2.2 (wOf (pxAt E D f1.l f2.l f3.l f4.l k)).1 (wOf (pxAt E D f1.l f2.l f3.l f4.l k)).2 (wOf 1).1 (wOf 1).2 subV=(d,0) ∧
   (d.1.1=true→negF d.1.1 d.1.2 d.2.1 d.2.2=(g,0))∧(d.1.1=false→g=d) ∧
   cmpF g.1.1 g.1.2 g.2.1 g.2.2 (wOf 1).1 (wOf 1).2 (wOf 2).1 (wOf 2).2=(c,0)∧c≤0:=by
 have b1:=getP (q0r h.c1).1 k;have b2:=getP (q0r h.c2).1 k;have b3:=getP (q0r h.c3).1 k;have b4:=getP (q0r h.c4).1 k;have hs:=sumP_bd true f4.l (q0r h.c4).1;have hl4:=(q0r h.c4).2;have hs0:=sumP_pos hc;have hn:=cntP_bd true f4.l
 have hz:pxAt E D f1.l f2.l f3.l f4.l k=zAt E D f1.l f2.l f3.l f4.l k:=by
  unfold erL at he;rw [List.any_eq_false] at he;have h1:=he k (List.mem_range.2 hk);unfold erAt at h1;rw [if_neg (by omega)] at h1;unfold pixE at h1;unfold pxAt;rw [if_neg (by omega)];unfold pixR;split at h1
  ·next h2=>rw [if_pos h2]
  ·simp at h1
 have hp:=pxAt_in E D f1.l f2.l f3.l f4.l k;obtain ⟨P,Q,m1,s,m2,e1,e2,e3,e4,e5,e6,hY,hX,hYl⟩:=exact_chain b1.1 b1.2 b2.1 b2.2 b3.1 b3.2 hF b4.2 h.e0 h.e1 h.d0 h.d1 hs0 (by omega) (show 0 < cntP true f4.l by omega) (by omega);obtain ⟨d,g,c,n1,n2,n3,n4,n5⟩:=near_facts hY hX hYl (z:=pxAt E D f1.l f2.l f3.l f4.l k) hz hp.1 hp.2;exact ⟨P,Q,m1,s,m2,_,d,g,c,e1,e2,e3,e4,e5,e6,ofS_whole (by omega) (by omega),n1,n2,n3,n4,n5⟩
end Go.Proofs.YtgnjhlnolihgcaaGreat
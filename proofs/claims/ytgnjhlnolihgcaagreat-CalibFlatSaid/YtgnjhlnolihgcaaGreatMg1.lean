import Derived.Test.YtgnjhlnolihgcaaGreatRegI
import Derived.Test.YtgnjhlnolihgcaaGreatCalP
namespace Go.Proofs.YtgnjhlnolihgcaaGreat
open Go.RowKit
theorem rnd_eq {x y u v:Int} (hy:y≠0) (hv:v≠0) (h:x * v=u * y):rndS x y=rndS u v:=by
 unfold rndS;rw [red_eq hy hv h]
theorem rnd_parts {x y:Int} (hy:0 < y) (fx:fitZ x) (fy:fitZ y):∃ a b:Int,0 < b∧x * b=a * y∧rndS x y=roundZ a b:=by
 obtain ⟨a,b,h1,h2,h3,h4,h5⟩:=red_parts (x:=x) (show y≠0 by omega);have hg:=sg_ne (x:=x) (show y≠0 by omega);refine ⟨a,b,h4,?_,?_⟩
 ·generalize sgZ x y=g at *;rw [h1,h2];grind
 ·unfold rndS;rw [h3]
  have fa:fitZ a:=by
   refine q1f (b:=x) ?_ fx;rw [h1,Int.natAbs_mul];have:0 < (sgZ x y).natAbs:=(by omega);exact Nat.le_mul_of_pos_left _ this
  have fb:fitZ b:=by
   refine q1f (b:=y) ?_ fy
   have e:y.natAbs=(sgZ x y).natAbs * b.natAbs:=by
    conv=>lhs; rw [h2]
    rw [Int.natAbs_mul]
   rw [e];have:0 < (sgZ x y).natAbs:=(by omega);exact Nat.le_mul_of_pos_left _ this
  show roundZ (zv (wOf a).1 (wOf a).2) (zv (wOf b).1 (wOf b).2)=_
  rw [(vz_wOf fa).zv_eq,(vz_wOf fb).zv_eq]
theorem rnd_exact {x m:Int} (hm:0 < m) (fx:fitZ (x * m)) (fm:fitZ m):rndS (x * m) m=x:=by
 have e:rndS (x * m) m=rndS x 1:=rnd_eq (by omega) (by omega) (by rw [Int.mul_one]);rw [e]
 have fx1:fitZ x:=by
  refine q1f (b:=x * m) ?_ fx;rw [Int.natAbs_mul];exact Nat.le_mul_of_pos_right _ (by omega)
 obtain ⟨a,b,hb,hab,hr⟩:=rnd_parts (x:=x) (y:=1) (by omega) fx1 (q1f (b:=m) (by omega) fm);rw [hr];have e2:a=x * b:=(by omega);rw [e2];unfold roundZ;have hb0:b≠0:=(by omega);have f1:(x * b).fmod b=0:=(by rw [Int.mul_comm]; exact Int.mul_fmod_right b x);have f2:(x * b).fdiv b=x:=(by rw [Int.mul_comm]; exact Int.mul_fdiv_cancel_left x hb0);rw [f1,f2,if_neg (by omega)]
theorem cnt_rep (n:Nat) {v:Int} (hv:0 < v):cntP true (List.replicate n v)=n∧sumP true (List.replicate n v)=n * v:=by
 have hs:selP true v=true:=by unfold selP; simpa using hv
 have hf:(List.replicate n v).filter (selP true)=List.replicate n v:=by
  rw [List.filter_eq_self];intro a ha;rw [(List.mem_replicate.1 ha).2];exact hs
 unfold cntP sumP;rw [hf];refine ⟨by simp,?_⟩;clear hf
 induction n with
 | zero=>simp
 | succ n ih=>rw [List.replicate_succ,List.foldr_cons,ih,Int.natCast_succ,Int.add_mul,Int.one_mul]; omega
theorem sel_mul {t:Int} (ht:0 < t) (x:Int):selP true (x * t)=selP true x:=by
 unfold selP;congr 1
 refine decide_eq_decide.2 ⟨fun h=>?_,fun h=>Int.mul_pos h ht⟩;rcases Int.lt_or_le 0 x with h2 | h2
 ·exact h2
 ·have:=Int.mul_le_mul_of_nonneg_right h2 (Int.le_of_lt ht);omega
theorem filter_mul {t:Int} (ht:0 < t):∀ l:List Int,(l.map (· * t)).filter (selP true)=(l.filter (selP true)).map (· * t)
 | []=>rfl
 | x :: l=>by
  rw [List.map_cons,List.filter_cons,List.filter_cons,sel_mul ht,filter_mul ht l];split <;> simp
theorem sum_mul (t:Int):∀ l:List Int,(l.map (· * t)).foldr (· + ·) 0=l.foldr (· + ·) 0 * t
 | []=>by simp
 | x :: l=>by rw [List.map_cons,List.foldr_cons,List.foldr_cons,sum_mul t l,Int.add_mul]
theorem cnt_mul {t:Int} (ht:0 < t) (l:List Int):cntP true (l.map (· * t))=cntP true l∧sumP true (l.map (· * t))=sumP true l * t:=by
 unfold cntP sumP;rw [filter_mul ht,sum_mul];exact ⟨by simp,rfl⟩
def plainL (r b:List Int) (n:Nat):Bool:=(List.range n).all fun i=>decide (-4294967296≤r.getD i 0 - b.getD i 0) && decide (r.getD i 0 - b.getD i 0≤4294967296)
def subL (r b:List Int) (n:Nat):List Int:=(List.range n).map fun i=>r.getD i 0 - b.getD i 0
theorem subL_len (r b:List Int) (n:Nat):(subL r b n).length=n:=by simp [subL]
theorem plainL_succ (r b:List Int) (n:Nat):plainL r b (n+1)=(plainL r b n && (decide (-4294967296≤r.getD n 0 - b.getD n 0) && decide (r.getD n 0 - b.getD n 0≤4294967296))):=by
 unfold plainL;rw [List.range_succ,List.all_append];simp
theorem rep_at {n i:Nat} (v:Int) (h:i < n):(List.replicate n v).getD i 0=v:=by simp [List.getD_eq_getElem?_getD,h]
theorem flat_z {E D v:Int} {r b:List Int} {n i:Nat} (hi:i < n) (hn:n≤10000) (r1 : -4294967296≤r.getD i 0) (r2:r.getD i 0≤4294967296) (b1 : -4294967296≤b.getD i 0) (b2:b.getD i 0≤4294967296)
  (D1:1≤D) (D2:D≤1000000) (v1:1≤v) (v2:v≤1048576):zAt E D r b (List.replicate n 0) (List.replicate n v) i=r.getD i 0 - b.getD i 0:=by
 obtain ⟨c1,c2⟩:=cnt_rep n (v:=v) (by omega);unfold zAt;rw [c1,c2,rep_at 0 hi,rep_at v hi];have hxb : -8589934592≤r.getD i 0 - b.getD i 0∧r.getD i 0 - b.getD i 0≤8589934592:=(by omega);generalize r.getD i 0 - b.getD i 0=x at *;have hx:x.natAbs < 4294967296 ^ 2:=(by omega);have hm:(D * v * (n:Int)).natAbs < 4294967296 ^ 3:=q0l (k:=2) (j:=1) (q0l (k:=1) (j:=1) (by omega) (by omega)) (by omega);have hm0:0 < D * v * (n:Int):=Int.mul_pos (Int.mul_pos (by omega) (by omega)) (by omega);have e:(x * D - 0 * E) * ((n:Int) * v)=x * (D * v * (n:Int)):=(by grind);rw [e];exact rnd_exact hm0 (q1e (q0l hx hm) (by omega)) (q1e hm (by omega))
theorem getP {l:List Int} (h:∀ x∈l,-4294967296≤x∧x≤4294967296) (i:Nat) : -4294967296≤l.getD i 0∧l.getD i 0≤4294967296:=by
 rw [List.getD_eq_getElem?_getD];rcases hh:l[i]? with _ | x
 ·simp
 ·simpa using h x (List.mem_of_getElem? hh)
theorem flat_out {f1 f2 f3 f4:FD} {E D v:Int} (h:ApOk f1 f2 f3 f4 E D) (e3:f3.l=List.replicate f1.l.length 0) (e4:f4.l=List.replicate f1.l.length v) (v1:1≤v) (v2:v≤1048576) :
  apOut f1 f2 f3 f4 E D=if plainL f1.l f2.l f1.l.length=true then ⟨f1.W,f1.H,subL f1.l f2.l f1.l.length,bdL f4.l f1.l.length,0⟩ else ⟨0,0,[],[],16⟩:=by
 obtain ⟨g1,g2,g3,g4⟩:=fchk_facts h.c1;obtain ⟨-,-,-,k4⟩:=fchk_facts h.c2;have hn:f1.l.length≤10000:=(q1g h.c1).2
 have hn0:0 < f1.l.length:=by
  have:=side_mul g1.1 g1.2 g2.1 g2.2;omega
 obtain ⟨c1,c2⟩:=cnt_rep f1.l.length (v:=v) (by omega)
 have hz:∀ i,i < f1.l.length→zAt E D f1.l f2.l f3.l f4.l i=f1.l.getD i 0 - f2.l.getD i 0:=fun i hi=>by
  rw [e3,e4];exact flat_z hi hn (getP g4 i).1 (getP g4 i).2 (getP k4 i).1 (getP k4 i).2 h.d0 h.d1 v1 v2
 have hf:∀ i,i < f1.l.length→¬ f4.l.getD i 0≤0:=fun i hi=>by rw [e4,rep_at v hi]; omega
 rw [apOut_rest h,if_neg (by rw [e4,c1]; omega)]
 have he:erL E D f1.l f2.l f3.l f4.l f1.l.length = !plainL f1.l f2.l f1.l.length:=by
  cases hp:plainL f1.l f2.l f1.l.length with
  | true=>
   refine erL_none fun i hi=>?_;unfold plainL at hp;have:=List.all_eq_true.1 hp i (List.mem_range.2 hi);rw [Bool.and_eq_true,decide_eq_true_eq,decide_eq_true_eq] at this;unfold erAt;rw [if_neg (hf i hi),hz i hi];unfold pixE;rw [if_pos this]
  | false=>
   unfold plainL at hp;obtain ⟨i,hi,h1⟩:=List.all_eq_false.1 hp;have hi:=List.mem_range.1 hi;refine erL_hit hi ?_;unfold erAt;rw [if_neg (hf i hi),hz i hi];unfold pixE
   rw [if_neg (by
    intro h2;apply h1
    rw [decide_eq_true h2.1,decide_eq_true h2.2]; rfl)]
   decide
 rw [he]
 cases hp:plainL f1.l f2.l f1.l.length with
 | false=>rfl
 | true=>
  rw [if_neg (by simp),if_pos rfl];congr 1
  unfold pxL subL;refine List.map_congr_left fun i hi=>?_;have hi:=List.mem_range.1 hi;unfold plainL at hp;have:=List.all_eq_true.1 hp i (List.mem_range.2 hi);rw [Bool.and_eq_true,decide_eq_true_eq,decide_eq_true_eq] at this;unfold pxAt;rw [if_neg (hf i hi),hz i hi];unfold pixR;rw [if_pos this]
theorem map_at (l:List Int) (t:Int) (i:Nat):(l.map (· * t)).getD i 0=l.getD i 0 * t:=by
 simp only [List.getD_eq_getElem?_getD,List.getElem?_map];cases l[i]? <;> simp
theorem mul_le0 {x t:Int} (ht:1≤t):x * t≤0 ↔ x≤0:=by
 constructor
 ·intro h;rcases Int.lt_or_le 0 x with h2 | h2
  ·have:=Int.mul_pos h2 (show 0 < t by omega); omega
  ·exact h2
 ·intro h;exact Int.mul_nonpos_of_nonpos_of_nonneg h (by omega)
theorem flat_more {f1 f2 f3 f4 f5:FD} {E D t:Int} (h:ApOk f1 f2 f3 f4 E D) (h':ApOk f1 f2 f3 f5 E D) (e5:f5.l=f4.l.map (· * t)) (ht:1≤t) :
  apOut f1 f2 f3 f5 E D=apOut f1 f2 f3 f4 E D:=by
 obtain ⟨c1,c2⟩:=cnt_mul (t:=t) (by omega) f4.l;rw [apOut_rest h,apOut_rest h',e5,c1];by_cases hc:cntP true f4.l=0
 ·rw [if_pos hc,if_pos hc]
 rw [if_neg hc,if_neg hc];have hN:0 < cntP true f4.l:=by unfold cntP at *; omega
 have hz:∀ i,0 < f4.l.getD i 0→zAt E D f1.l f2.l f3.l (f4.l.map (· * t)) i=zAt E D f1.l f2.l f3.l f4.l i:=fun i hi=>by
  unfold zAt;rw [c1,c2,map_at];have d0:=h.d0;refine rnd_eq (Int.ne_of_gt (Int.mul_pos (Int.mul_pos (by omega) (Int.mul_pos hi (by omega))) hN)) (Int.ne_of_gt (Int.mul_pos (Int.mul_pos (by omega) hi) hN)) ?_;generalize (f1.l.getD i 0 - f2.l.getD i 0) * D - f3.l.getD i 0 * E=A;generalize sumP true f4.l=S;generalize f4.l.getD i 0=F;generalize cntP true f4.l=N;grind
 have e1:erL E D f1.l f2.l f3.l (f4.l.map (· * t)) f1.l.length=erL E D f1.l f2.l f3.l f4.l f1.l.length:=by
  unfold erL;congr 1
  funext i
  unfold erAt;rw [map_at];by_cases hi:f4.l.getD i 0≤0
  ·rw [if_pos ((mul_le0 ht).2 hi),if_pos hi]
  ·rw [if_neg (mt (mul_le0 ht).1 hi),if_neg hi,hz i (by omega)]
 have e2:pxL E D f1.l f2.l f3.l (f4.l.map (· * t)) f1.l.length=pxL E D f1.l f2.l f3.l f4.l f1.l.length:=by
  unfold pxL;congr 1
  funext i
  unfold pxAt;rw [map_at];by_cases hi:f4.l.getD i 0≤0
  ·rw [if_pos ((mul_le0 ht).2 hi),if_pos hi]
  ·rw [if_neg (mt (mul_le0 ht).1 hi),if_neg hi,hz i (by omega)]
 have e3:bdL (f4.l.map (· * t)) f1.l.length=bdL f4.l f1.l.length:=by
  unfold bdL;congr 1
  funext i
  unfold bdAt;rw [map_at];exact decide_eq_decide.2 (mul_le0 ht)
 rw [e1,e2,e3]
end Go.Proofs.YtgnjhlnolihgcaaGreat
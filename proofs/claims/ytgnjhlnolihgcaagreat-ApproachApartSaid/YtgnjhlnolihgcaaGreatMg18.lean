import Derived.Test.YtgnjhlnolihgcaaGreatMg17
namespace Go.Proofs.YtgnjhlnolihgcaaGreat
open Go.RowKit
def rnF (op:Nat→Bool):Nat→Int
 | 0=>-1
 | i+1=>if op i then (if rnF op i < 0 then i else rnF op i) else -1
def rnL (op:Nat→Bool):Nat→List (Nat × Nat)
 | 0=>[]
 | i+1=>if op i=false∧0≤rnF op i then rnL op i ++ [((rnF op i).toNat,i - 1)] else rnL op i
def rnA (op:Nat→Bool) (n:Nat):List (Nat × Nat):=if 0≤rnF op n then rnL op n ++ [((rnF op n).toNat,n - 1)] else rnL op n
structure RunQ (op:Nat→Bool) (n a b:Nat):Prop where
 ab:a≤b
 bn:b < n
 all:∀ j,a≤j→j≤b→op j=true
 lo:a=0∨op (a - 1)=false
theorem rnF_bd (op:Nat→Bool):∀ n,-1≤rnF op n∧(0≤rnF op n→rnF op n < n∧RunQ op n (rnF op n).toNat (n - 1))
 | 0=>⟨Int.le_refl _,fun h=>by unfold rnF at h; omega⟩
 | i+1=>by
  obtain ⟨h1,h2⟩:=rnF_bd op i
  cases h:op i with
  | false=>
   have e:rnF op (i+1) = -1:=(by show (if op i then _ else _)=_; rw [h]; rfl);rw [e];exact ⟨by omega,fun h=>by omega⟩
  | true=>
   by_cases h3:rnF op i < 0
   ·have e:rnF op (i+1)=i:=(by show (if op i then _ else _)=_; rw [h,if_pos rfl,if_pos h3]);rw [e];refine ⟨by omega,fun _=>⟨by omega,by omega,by omega,fun j h4 h5=>?_,?_⟩⟩
    ·obtain rfl:j=i:=by omega
     exact h
    ·cases i with
     | zero=>exact .inl rfl
     | succ i=>
      right
      cases h6:op i with
      | false=>simpa using h6
      | true=>
       exfalso
       have:rnF op (i+1)=if rnF op i < 0 then (i:Int) else rnF op i:=(by show (if op i then _ else _)=_; rw [h6,if_pos rfl]);rw [this] at h3;split at h3 <;> omega
   ·have e:rnF op (i+1)=rnF op i:=(by show (if op i then _ else _)=_; rw [h,if_pos rfl,if_neg h3]);obtain ⟨h4,h5⟩:=h2 (by omega);rw [e];refine ⟨by omega,fun _=>⟨by omega,by omega,by omega,fun j h6 h7=>?_,h5.lo⟩⟩;by_cases hj:j=i
    ·rw [hj]; exact h
    ·exact h5.all j h6 (by omega)
structure RunsQ (op:Nat→Bool) (n m:Nat) (l:List (Nat × Nat)):Prop where
 each:∀ i (h:i < l.length),RunQ op n (l[i]'h).1 (l[i]'h).2∧((l[i]'h).2+1=n∨op ((l[i]'h).2+1)=false)
 apart:∀ i (h:i+1 < l.length),(l[i]'(by omega)).2+1 < (l[i+1]'h).1
 has:∀ k,k < m→op k=true→∃ i,∃ h:i < l.length,(l[i]'h).1≤k∧k≤(l[i]'h).2
 last:∀ i (h:i < l.length),(l[i]'h).2 < m
 few:2 * l.length≤m+1
def RnLQ (op:Nat→Bool) (n:Nat) (f:Int) (l:List (Nat × Nat)):Prop:=(∀ i (h:i < l.length),RunQ op n (l[i]'h).1 (l[i]'h).2∧(l[i]'h).2+1 < n∧op ((l[i]'h).2+1)=false) ∧
  (∀ i (h:i+1 < l.length),(l[i]'(by omega)).2+1 < (l[i+1]'h).1) ∧
  (∀ k,k < n→op k=true→(0≤f∧f≤k)∨∃ i,∃ h:i < l.length,(l[i]'h).1≤k∧k≤(l[i]'h).2) ∧
  (∀ i (h:i < l.length),0≤f→((l[i]'h).2:Int)+1 < f)∧2 * l.length≤n∧(0≤f→2 * l.length+1≤n)
theorem rnL_q (op:Nat→Bool):∀ n,RnLQ op n (rnF op n) (rnL op n)
 | 0=>⟨fun i h=>by simp [rnL] at h,fun i h=>by simp [rnL] at h,fun k h=>by omega,fun i h=>by simp [rnL] at h,by simp [rnL],fun h=>by unfold rnF at h; omega⟩
 | n+1=>by
  obtain ⟨h1,h2,h3,h4,h5,h6⟩:=rnL_q op n;obtain ⟨b1,b2⟩:=rnF_bd op n
  cases h:op n with
  | true=>
   have e:rnL op (n+1)=rnL op n:=(by show (if _ then _ else _)=_; rw [if_neg (by rw [h]; simp)]);have ef:rnF op (n+1)=if rnF op n < 0 then (n:Int) else rnF op n:=(by show (if op n then _ else _)=_; rw [h,if_pos rfl]);rw [e,ef];refine ⟨fun i hi=>?_,h2,fun k hk ho=>?_,fun i hi hp=>?_,by omega,fun hp=>?_⟩
   ·obtain ⟨q,a,b⟩:=h1 i hi;exact ⟨⟨q.ab,by have:=q.bn; omega,q.all,q.lo⟩,by omega,b⟩
   ·by_cases hkn:k=n
    ·left; subst hkn; split
     ·omega
     ·next hn=>have:=(b2 (by omega)).1; omega
    ·rcases h3 k (by omega) ho with ⟨a,b⟩ | a
     ·left; rw [if_neg (by omega)]; exact ⟨a,b⟩
     ·exact .inr a
   ·have:=h1 i hi;split
    ·omega
    ·next hn=>exact h4 i hi (by omega)
   ·split at hp
    ·omega
    ·have:=h6 (by omega); omega
  | false=>
   have ef:rnF op (n+1) = -1:=(by show (if op n then _ else _)=_; rw [h]; rfl);rw [ef];by_cases hf:0≤rnF op n
   ·have e:rnL op (n+1)=rnL op n ++ [((rnF op n).toNat,n - 1)]:=(by show (if _ then _ else _)=_; rw [if_pos ⟨h,hf⟩]);obtain ⟨b3,b4⟩:=b2 hf;rw [e];have gl:∀ i (hi:i < (rnL op n).length),(rnL op n ++ [((rnF op n).toNat,n - 1)])[i]'(by simp; omega)=(rnL op n)[i]'hi:=fun i hi=>List.getElem_append_left hi;have gr:(rnL op n ++ [((rnF op n).toNat,n - 1)])[(rnL op n).length]'(by simp)=((rnF op n).toNat,n - 1):=(by simp);have hn:0 < n:=(by have:=b4.bn; omega);refine ⟨fun i hi=>?_,fun i hi=>?_,fun k hk ho=>?_,fun i hi hp=>by omega,by rw [List.length_append]; have:=h6 hf; simp; omega,fun hp=>by omega⟩
    ·by_cases hi2:i < (rnL op n).length
     ·rw [gl i hi2];obtain ⟨q,a,b⟩:=h1 i hi2;exact ⟨⟨q.ab,by have:=q.bn; omega,q.all,q.lo⟩,by omega,b⟩
     ·obtain rfl:i=(rnL op n).length:=by simp at hi; omega
      rw [gr];refine ⟨⟨b4.ab,by show n - 1 < _; omega,b4.all,b4.lo⟩,by show n - 1+1 < n+1; omega,?_⟩;show op (n - 1+1)=false
      rw [Nat.sub_add_cancel hn]; exact h
    ·by_cases hi2:i+1 < (rnL op n).length
     ·rw [gl i (by omega),gl (i+1) hi2]; exact h2 i hi2
     ·have e2:i+1=(rnL op n).length:=(by simp at hi; omega);have hil:i < (rnL op n).length:=(by omega);have:=h4 i hil hf;rw [gl i hil];have gr2:(rnL op n ++ [((rnF op n).toNat,n - 1)])[i+1]'hi=((rnF op n).toNat,n - 1):=(by simp [e2]);rw [gr2];show _ < (rnF op n).toNat
      omega
    ·by_cases hkn:k=n
     ·rw [hkn,h] at ho; cases ho
     ·right
      rcases h3 k (by omega) ho with ⟨a,b⟩ | ⟨i,hi,a⟩
      ·refine ⟨(rnL op n).length,by simp,?_⟩;rw [gr];exact ⟨by show (rnF op n).toNat≤k; omega,by show k≤n - 1; omega⟩
      ·exact ⟨i,by simp; omega,by rw [gl i hi]; exact a⟩
   ·have e:rnL op (n+1)=rnL op n:=(by show (if _ then _ else _)=_; rw [if_neg (by omega)]);rw [e];refine ⟨fun i hi=>?_,h2,fun k hk ho=>?_,fun i hi hp=>by omega,by omega,fun hp=>by omega⟩
    ·obtain ⟨q,a,b⟩:=h1 i hi;exact ⟨⟨q.ab,by have:=q.bn; omega,q.all,q.lo⟩,by omega,b⟩
    ·by_cases hkn:k=n
     ·rw [hkn,h] at ho; cases ho
     ·rcases h3 k (by omega) ho with ⟨a,b⟩ | a
      ·omega
      ·exact .inr a
theorem rnA_q (op:Nat→Bool) (n:Nat):RunsQ op n n (rnA op n):=by
 obtain ⟨h1,h2,h3,h4,h5,h6⟩:=rnL_q op n;obtain ⟨b1,b2⟩:=rnF_bd op n;by_cases hf:0≤rnF op n
 ·have eA:rnA op n=rnL op n ++ [((rnF op n).toNat,n - 1)]:=if_pos hf;rw [eA];obtain ⟨b3,b4⟩:=b2 hf;have gl:∀ i (hi:i < (rnL op n).length),(rnL op n ++ [((rnF op n).toNat,n - 1)])[i]'(by simp; omega)=(rnL op n)[i]'hi:=fun i hi=>List.getElem_append_left hi;have gr:(rnL op n ++ [((rnF op n).toNat,n - 1)])[(rnL op n).length]'(by simp)=((rnF op n).toNat,n - 1):=(by simp);have hn:0 < n:=(by have:=b4.bn; omega);refine ⟨fun i hi=>?_,fun i hi=>?_,fun k hk ho=>?_,fun i hi=>?_,by rw [List.length_append]; have:=h6 hf; simp; omega⟩
  ·by_cases hi2:i < (rnL op n).length
   ·rw [gl i hi2];obtain ⟨q,a,b⟩:=h1 i hi2;exact ⟨q,.inr b⟩
   ·obtain rfl:i=(rnL op n).length:=by simp at hi; omega
    rw [gr];exact ⟨b4,.inl (by show n - 1+1=n; omega)⟩
  ·by_cases hi2:i+1 < (rnL op n).length
   ·rw [gl i (by omega),gl (i+1) hi2]; exact h2 i hi2
   ·have e2:i+1=(rnL op n).length:=(by simp at hi; omega);have hil:i < (rnL op n).length:=(by omega);have:=h4 i hil hf;rw [gl i hil];have gr2:(rnL op n ++ [((rnF op n).toNat,n - 1)])[i+1]'hi=((rnF op n).toNat,n - 1):=(by simp [e2]);rw [gr2];show _ < (rnF op n).toNat
    omega
  ·rcases h3 k hk ho with ⟨a,b⟩ | ⟨i,hi,a⟩
   ·refine ⟨(rnL op n).length,by simp,?_⟩;rw [gr];exact ⟨by show (rnF op n).toNat≤k; omega,by show k≤n - 1; omega⟩
   ·exact ⟨i,by simp; omega,by rw [gl i hi]; exact a⟩
  ·by_cases hi2:i < (rnL op n).length
   ·rw [gl i hi2]; have:=(h1 i hi2).1.bn; exact this
   ·obtain rfl:i=(rnL op n).length:=by simp at hi; omega
    rw [gr]; show n - 1 < n; omega
 ·have eA:rnA op n=rnL op n:=if_neg hf;rw [eA];refine ⟨fun i hi=>⟨(h1 i hi).1,.inr (h1 i hi).2.2⟩,h2,fun k hk ho=>?_,fun i hi=>(h1 i hi).1.bn,by omega⟩;rcases h3 k hk ho with ⟨a,b⟩ | a
  ·omega
  ·exact a
def lsI (f:Nat→Int):Nat→Nat
 | 0=>0
 | i+1=>if f i < f (lsI f i) then i else lsI f i
theorem lsI_q (f:Nat→Int):∀ n,(0 < n→lsI f n < n)∧(∀ j,j < n→f (lsI f n)≤f j)∧lsI f n≤n
 | 0=>⟨fun h=>by omega,fun j h=>by omega,Nat.le_refl _⟩
 | n+1=>by
  obtain ⟨h1,h2,h3⟩:=lsI_q f n;have e:lsI f (n+1)=if f n < f (lsI f n) then n else lsI f n:=rfl;rw [e];split
  ·next h=>
   refine ⟨fun _=>by omega,fun j hj=>?_,by omega⟩;by_cases hjn:j=n
   ·rw [hjn]; omega
   ·have:=h2 j (by omega); omega
  ·next h=>
   refine ⟨fun _=>?_,fun j hj=>?_,by omega⟩
   ·rcases Nat.eq_zero_or_pos n with rfl | hp
    ·show 0 < 0+1; omega
    ·have:=h1 hp; omega
   ·by_cases hjn:j=n
    ·rw [hjn]; omega
    ·exact h2 j (by omega)
structure PS where
 first:Nat
 last:Nat
 F:Int
 T:Int
 near:Int
 far:Int
 sure:Bool
def PS.cells (p:PS):List Value:=[.int .i64 p.first,.int .i64 p.last,.int .i64 p.F,.int .i64 p.T,.int .i64 p.near,.int .i64 p.far,.bool p.sure]
def gA (s:List (Int × Int)) (k:Nat):Int:=(s.getD k (0,0)).1
def eA (s:List (Int × Int)) (k:Nat):Int:=(s.getD k (0,0)).2
def mnG (s:List (Int × Int)) (a b:Nat):Int:=gA s (a+lsI (fun j=>gA s (a+j)) (b+1 - a))
def mnE (s:List (Int × Int)) (a b:Nat):Int:=eA s (a+lsI (fun j=>eA s (a+j)) (b+1 - a))
def dnZ (w:Int):Int:=(isq w.toNat:Nat)
def upZ (w:Int):Int:=if dnZ w ^ 2 < w then dnZ w+1 else dnZ w
def tF (l:List TB) (k:Nat):Int:=(l[k]?.map TB.F).getD 0
def tT (l:List TB) (k:Nat):Int:=(l[k]?.map TB.T).getD 0
def psOf (l:List TB) (s:List (Int × Int)) (n:Int) (r:Nat × Nat):PS:=⟨r.1,r.2,tF l r.1,tT l r.2,dnZ (mnG s r.1 r.2),upZ (mnE s r.1 r.2),decide (mnE s r.1 r.2≤n ^ 2)⟩
def opS (s:List (Int × Int)) (n:Int) (k:Nat):Bool:=decide (gA s k≤n ^ 2)
noncomputable def paS (bs:List BG) (i:Int) (l:List TB) (n:Int):List PS × Int:=
 if (lkS bs i l).2≠0 then ([],(lkS bs i l).2) else ((rnA (opS (lkS bs i l).1 n) l.length).map (psOf l (lkS bs i l).1 n),0)
noncomputable def scS (bs:List BG) (i:Int) (l:List TB) (n:Int):List PS × Int:=
 if chkA l≠0 then ([],chkA l) else if n < 0∨8796093022208 < n then ([],2) else paS bs i l n
theorem pow2 (x:Int):x ^ 2=x * x:=by rw [Int.pow_succ,Int.pow_succ,Int.pow_zero,Int.one_mul]
theorem sqr_mono {x y:Int} (h0:0≤x) (h:x≤y):x ^ 2≤y ^ 2:=by
 rw [pow2,pow2];exact Int.mul_le_mul h h h0 (by omega)
theorem sqr_nn (x:Int):0≤x ^ 2:=by
 rw [pow2];rcases Int.le_total 0 x with h | h
 ·exact Int.mul_nonneg h h
 ·have:=Int.mul_nonneg (a:=-x) (b:=-x) (by omega) (by omega);rwa [Int.neg_mul_neg] at this
theorem sqr_lt {x y:Int} (h0:0≤y) (h:x ^ 2 < y ^ 2):x < y:=by
 rcases Int.lt_or_le x y with h2 | h2
 ·exact h2
 ·have:=sqr_mono h0 h2; omega
theorem sqr_le {x y:Int} (h0:0≤y) (h:x ^ 2≤y ^ 2):x≤y:=by
 have:x < y+1:=sqr_lt (by omega) (by
  have:y ^ 2 < (y+1) ^ 2:=by
   rw [pow2,pow2,Int.mul_add,Int.add_mul,Int.mul_one,Int.one_mul]; omega
  omega)
 omega
theorem dn_q {w:Int} (h:0≤w):0≤dnZ w∧dnZ w ^ 2≤w∧w < (dnZ w+1) ^ 2:=by
 unfold dnZ;have h1:=isq_le w.toNat;have h2:=isq_gt w.toNat;generalize isq w.toNat=r at *;have e:(w.toNat:Int)=w:=Int.toNat_of_nonneg h;refine ⟨by omega,?_,?_⟩
 ·rw [pow2];have:((r * r:Nat):Int)≤(w.toNat:Int):=(by exact_mod_cast h1);rw [Int.natCast_mul] at this;omega
 ·rw [pow2];have:(w.toNat:Int) < (((r+1) * (r+1):Nat):Int):=(by exact_mod_cast h2);rw [Int.natCast_mul,Int.natCast_add] at this;simp only [Int.cast_ofNat_Int] at this;omega
theorem up_iff {w m:Int} (h:0≤w) (hm:0≤m):upZ w≤m ↔ w≤m ^ 2:=by
 obtain ⟨h0,h1,h2⟩:=dn_q h;unfold upZ;split
 ·next h3=>
  constructor
  ·intro h4;have:=sqr_mono (x:=dnZ w+1) (by omega) h4;omega
  ·intro h4;have:=sqr_lt (x:=dnZ w) hm (by omega);omega
 ·next h3=>
  constructor
  ·intro h4;have:=sqr_mono h0 h4;omega
  ·intro h4;exact sqr_le hm (by omega)
theorem up_nn {w:Int} (h:0≤w):0≤upZ w:=by
 have:=(dn_q h).1;unfold upZ;split <;> omega
theorem up_self {w:Int} (h:0≤w):w≤upZ w ^ 2:=(up_iff h (up_nn h)).1 (Int.le_refl _)
theorem up_mono {w v:Int} (h:0≤w) (hv:w≤v):upZ w≤upZ v:=(up_iff h (up_nn (by omega))).2 (by have:=up_self (w:=v) (by omega); omega)
theorem dn_mono {w v:Int} (h:0≤w) (hv:w≤v):dnZ w≤dnZ v:=by
 have a:=dn_q h;have b:=dn_q (w:=v) (by omega);have:=sqr_lt (x:=dnZ w) (y:=dnZ v+1) (by omega) (by omega);omega
theorem dn_le_up {w v:Int} (h:0≤w) (hv:w≤v):dnZ w≤upZ v:=by
 have:=dn_mono h hv;unfold upZ;split <;> omega
theorem dn_le {w m:Int} (h:0≤w) (hm:0≤m) (h1:w≤m ^ 2):dnZ w≤m:=sqr_le hm (by have:=dn_q h; omega)
theorem gp_ok {bs:List BG} {i:Int} {t:TB} {g:Int × Int} (h:gpS bs i t=(g,0)):chkA [t]=0∧∃ o q,ovE bs i t.F t.T=(o,0)∧plE bs i t.T=(q,0)∧g=(gapZ t.hull o,endZ t.p q):=by
 unfold gpS at h;split at h
 ·next h1=>exact absurd (congrArg Prod.snd h) h1
 ·next h1=>
  split at h
  ·next h2=>exact absurd (congrArg Prod.snd h) h2
  ·next h2=>
   split at h
   ·next h3=>exact absurd (congrArg Prod.snd h) h3
   ·next h3=>exact ⟨Decidable.not_not.1 h1,_,_,Prod.ext rfl (Decidable.not_not.1 h2),Prod.ext rfl (Decidable.not_not.1 h3),(congrArg Prod.fst h).symm⟩
theorem lk_at {bs:List BG} {i:Int} : ∀ {l:List TB} {s:List (Int × Int)},lkS bs i l=(s,0)→s.length=l.length∧∀ k (h:k < l.length),gpS bs i (l[k]'h)=(s.getD k (0,0),0)
 | [],s,h=>by
  unfold lkS at h;obtain rfl:[]=s:=congrArg Prod.fst h;exact ⟨rfl,fun k hk=>by simp at hk⟩
 | t :: r,s,h=>by
  unfold lkS at h;split at h
  ·next h1=>exact absurd (congrArg Prod.snd h) h1
  ·next h1=>
   split at h
   ·next h2=>exact absurd (congrArg Prod.snd h) h2
   ·next h2=>
    obtain ⟨e1,e2⟩:=lk_at (l:=r) (s:=(lkS bs i r).1) (Prod.ext rfl (Decidable.not_not.1 h2));obtain rfl:=(congrArg Prod.fst h).symm;refine ⟨by simp [e1],fun k hk=>?_⟩
    cases k with
    | zero=>exact Prod.ext rfl (Decidable.not_not.1 h1)
    | succ k=>exact e2 k (by simpa using hk)
theorem sqS_mono {f g:Nat→Int} (h:∀ k,k < 3→f k ^ 2≤g k ^ 2):∀ n,n≤3→sqS f n≤sqS g n
 | 0,_=>Int.le_refl _
 | n+1,hn=>by
  have:=sqS_mono h n (by omega);have:=h n (by omega);unfold sqS;omega
theorem has6 {u v:V6} (h:Has u v) {k:Nat} (hk:k < 3):lo6 u k≤lo6 v k∧hi6 v k≤hi6 u k:=by
 obtain ⟨⟨a,b⟩,⟨c,d⟩,⟨e,f⟩⟩:=h;obtain rfl | rfl | rfl:k=0∨k=1∨k=2:=by omega
 ·exact ⟨a,b⟩
 ·exact ⟨c,d⟩
 ·exact ⟨e,f⟩
theorem okTb_q {t:TB} (h:okTb t=true):chkV t.hull=true∧chkV t.fast=true∧chkV t.p=true∧chkV t.v=true∧t.F < t.T:=by
 unfold okTb at h;simp only [Bool.and_eq_true,decide_eq_true_eq] at h;exact ⟨h.1,h.2.1,h.2.2.1,h.2.2.2.1,h.2.2.2.2⟩
structure GpQ (bs:List BG) (i:Int) (t:TB) (g:Int × Int):Prop where
 ok:okTb t=true
 g0:0≤g.1
 g1:g.1≤63802943797675961899382738893456539648
 e0:0≤g.2
 e1:g.2≤63802943797675961899382738893456539648
 eq:∃ o q,ovE bs i t.F t.T=(o,0)∧plE bs i t.T=(q,0)∧g=(gapZ t.hull o,endZ t.p q)∧Has o q∧chkV o=true∧chkV q=true
theorem gp_q {bs:List BG} {i:Int} {t:TB} {g:Int × Int} (hg:grE bs=false) (h:gpS bs i t=(g,0)):GpQ bs i t g:=by
 obtain ⟨h1,o,q,h2,h3,rfl⟩:=gp_ok h;have hk:=okAt_of h1 (k:=0) (by simp);have hk:okTb t=true:=hk;obtain ⟨k1,k2,k3,k4,k5⟩:=okTb_q hk;obtain ⟨q2,a1,a2,a3,a4,a5⟩:=ov_holds hg h2 (Int.le_of_lt k5) (Int.le_refl _);obtain rfl:q=q2:=congrArg Prod.fst (h3.symm.trans a1);have b1:=sqS_bd (f:=nr t.hull o) (fun k hk=>nr_bd k1 a3 hk) 3 (Nat.le_refl _);have b2:=sqS_bd (f:=fr t.p q) (fun k hk=>fr_bd k3 a5 hk) 3 (Nat.le_refl _);exact ⟨hk,b1.1,by show gapZ _ _≤_; unfold gapZ; omega,b2.1,by show endZ _ _≤_; unfold endZ; omega,o,q,h2,h3,rfl,a2,a3,a5⟩
def jnT (t:TB):Prop:=∀ k,k < 3→lo6 t.p k≤hi6 t.hull k∧lo6 t.hull k≤hi6 t.p k
theorem jn_le {bs:List BG} {i:Int} {t:TB} {g:Int × Int} (h:GpQ bs i t g) (hj:jnT t):g.1≤g.2:=by
 obtain ⟨o,q,h1,h2,rfl,h3,h4,h5⟩:=h.eq;obtain ⟨k1,k2,k3,k4,k5⟩:=okTb_q h.ok;refine sqS_mono (fun k hk=>?_) 3 (Nat.le_refl _);have j:=hj k hk;have a:=ok6 k1 hk;have b:=ok6 k3 hk;have c:=ok6 h5 hk;have hx:=has6 h3 hk;refine sqr_mono ?_ ?_
 ·unfold nr nearZ; omega
 ·unfold nr nearZ fr farZ; omega
theorem sc_ok {bs:List BG} {i n:Int} {l:List TB} {p:List PS} (h:scS bs i l n=(p,0)):chkA l=0∧0≤n∧n≤8796093022208∧∃ s,lkS bs i l=(s,0)∧p=(rnA (opS s n) l.length).map (psOf l s n):=by
 unfold scS at h;split at h
 ·next h1=>exact absurd (congrArg Prod.snd h) h1
 ·next h1=>
  split at h
  ·cases (congrArg Prod.snd h)
  ·next h2=>
   unfold paS at h;split at h
   ·next h3=>exact absurd (congrArg Prod.snd h) h3
   ·next h3=>exact ⟨Decidable.not_not.1 h1,by omega,by omega,_,Prod.ext rfl (Decidable.not_not.1 h3),(congrArg Prod.fst h).symm⟩
theorem sc_err {bs:List BG} {i n:Int} {l:List TB} (h:chkA l=0) (h0:0≤n) (h1:n≤8796093022208):(scS bs i l n).2=(lkS bs i l).2:=by
 unfold scS;rw [if_neg (by omega),if_neg (by omega)];unfold paS;split
 ·rfl
 ·next h2=>exact (Decidable.not_not.1 h2).symm
theorem mnG_q (s:List (Int × Int)) {a b:Nat} (hab:a≤b):(∃ k,a≤k∧k≤b∧mnG s a b=gA s k)∧∀ k,a≤k→k≤b→mnG s a b≤gA s k:=by
 obtain ⟨h1,h2,h3⟩:=lsI_q (fun j=>gA s (a+j)) (b+1 - a);have h1:=h1 (by omega);refine ⟨⟨a+lsI (fun j=>gA s (a+j)) (b+1 - a),by omega,by omega,rfl⟩,fun k hk hb=>?_⟩;have:=h2 (k - a) (by omega);rwa [Nat.add_sub_cancel' hk] at this
theorem mnE_q (s:List (Int × Int)) {a b:Nat} (hab:a≤b):(∃ k,a≤k∧k≤b∧mnE s a b=eA s k)∧∀ k,a≤k→k≤b→mnE s a b≤eA s k:=by
 obtain ⟨h1,h2,h3⟩:=lsI_q (fun j=>eA s (a+j)) (b+1 - a);have h1:=h1 (by omega);refine ⟨⟨a+lsI (fun j=>eA s (a+j)) (b+1 - a),by omega,by omega,rfl⟩,fun k hk hb=>?_⟩;have:=h2 (k - a) (by omega);rwa [Nat.add_sub_cancel' hk] at this
structure ApQ (l:List TB) (n:Int) (q:List PS) (a:PS):Prop where
 fl:a.first≤a.last
 ll:a.last < l.length
 F:a.F=tF l a.first
 T:a.T=tT l a.last
 near:a.near≤n
 sure:a.sure=decide (a.far≤n)
 jn:(∀ k (h:k < l.length),a.first≤k→k≤a.last→jnT (l[k]'h))→a.near≤a.far
 sub:∃ j,∃ h:j < q.length,(q[j]'h).first≤a.first∧a.last≤(q[j]'h).last∧(a.sure=true→(q[j]'h).sure=true)∧(q[j]'h).near≤a.near∧(q[j]'h).far≤a.far
theorem apart_law {bs:List BG} {i n m:Int} {l:List TB} {p q:List PS} (hg:grE bs=false) (hm:0≤m) (hp:scS bs i l n=(p,0)) (hq:scS bs i l (n+m)=(q,0)) :
  2 * p.length≤l.length+1∧2 * q.length≤l.length+1∧(∀ k (h:k < p.length),ApQ l n q (p[k]'h))∧∀ k (h:k+1 < p.length),(p[k]'(by omega)).last+1 < (p[k+1]'h).first:=by
 obtain ⟨c1,c2,c3,s,hl,rfl⟩:=sc_ok hp;obtain ⟨d1,d2,d3,s2,hl2,rfl⟩:=sc_ok hq;obtain rfl:s=s2:=congrArg Prod.fst (hl.symm.trans hl2);obtain ⟨e1,e2⟩:=lk_at hl;have R:=rnA_q (opS s n) l.length;have R2:=rnA_q (opS s (n+m)) l.length;generalize hr:rnA (opS s n) l.length=r at *;generalize hr2:rnA (opS s (n+m)) l.length=r2 at *;clear hr hr2 hp hq hl hl2;have GQ:∀ k (h:k < l.length),GpQ bs i (l[k]'h) (s.getD k (0,0)):=fun k h=>gp_q hg (e2 k h);have nn:=sqr_mono c2 (show n≤n+m by omega);refine ⟨by simpa using R.few,by simpa using R2.few,fun k h=>?_,fun k h=>by simpa [psOf] using R.apart k (by simpa using h)⟩;have hk:k < r.length:=(by simpa using h);obtain ⟨Q,hN⟩:=R.each k hk;rw [List.getElem_map];generalize r[k]'hk=x at *;obtain ⟨a,b⟩:=x;dsimp only at Q hN;have hab:=Q.ab;have hbn:=Q.bn;obtain ⟨⟨kg,g1,g2,g3⟩,g4⟩:=mnG_q s hab;obtain ⟨⟨ke,f1,f2,f3⟩,f4⟩:=mnE_q s hab;have pg:0≤mnG s a b:=(by rw [g3]; exact (GQ kg (by omega)).g0);have pe:0≤mnE s a b:=(by rw [f3]; exact (GQ ke (by omega)).e0);have og:∀ j,a≤j→j≤b→gA s j≤n ^ 2:=fun j h1 h2=>of_decide_eq_true (Q.all j h1 h2);have hsu:(decide (mnE s a b≤n ^ 2))=decide (upZ (mnE s a b)≤n):=decide_eq_decide.2 (up_iff pe c2).symm;refine ⟨hab,hbn,rfl,rfl,dn_le pg c2 (by rw [g3]; exact og kg g1 g2),hsu,fun hj=>?_,?_⟩
 ·refine dn_le_up pg (Int.le_trans (g4 ke f1 f2) ?_);rw [f3];exact jn_le (GQ ke (by omega)) (hj ke (by omega) f1 f2)
 ·have og2:∀ j,a≤j→j≤b→opS s (n+m) j=true:=fun j h1 h2=>decide_eq_true (Int.le_trans (og j h1 h2) nn);obtain ⟨j,hj,j1,j2⟩:=R2.has a (by omega) (og2 a (Nat.le_refl _) hab);obtain ⟨Q2,hN2⟩:=R2.each j hj;refine ⟨j,by simpa using hj,?_⟩;rw [List.getElem_map];generalize r2[j]'hj=y at *;obtain ⟨c,d⟩:=y;dsimp only at Q2 hN2 j1 j2
  have hbd:b≤d:=by
   rcases Nat.lt_or_ge d b with h1 | h1
   ·rcases hN2 with h2 | h2
    ·omega
    ·rw [og2 (d+1) (by omega) (by omega)] at h2; cases h2
   ·exact h1
  obtain ⟨_,G4⟩:=mnG_q s (a:=c) (b:=d) (by omega);obtain ⟨⟨ke2,F1,F2,F3⟩,F4⟩:=mnE_q s (a:=c) (b:=d) (by omega);obtain ⟨⟨kg2,G1,G2,G3⟩,_⟩:=mnG_q s (a:=c) (b:=d) (by omega);have pg2:0≤mnG s c d:=(by rw [G3]; exact (GQ kg2 (by have:=Q2.bn; omega)).g0);have pe2:0≤mnE s c d:=(by rw [F3]; exact (GQ ke2 (by have:=Q2.bn; omega)).e0);have le1:mnG s c d≤mnG s a b:=(by rw [g3]; exact G4 kg (by omega) (by omega));have le2:mnE s c d≤mnE s a b:=(by rw [f3]; exact F4 ke (by omega) (by omega));refine ⟨j1,hbd,fun h1=>?_,dn_mono pg2 le1,up_mono pe2 le2⟩;have h9:mnE s a b≤n ^ 2:=of_decide_eq_true h1;exact decide_eq_true (Int.le_trans le2 (Int.le_trans h9 nn))
end Go.Proofs.YtgnjhlnolihgcaaGreat
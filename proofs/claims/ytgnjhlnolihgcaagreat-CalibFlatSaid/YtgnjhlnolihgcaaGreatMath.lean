namespace Go.Proofs.YtgnjhlnolihgcaaGreat
def val:List Nat→Nat
 | []=>0
 | x :: t=>x+4294967296 * val t
def Lim (l:List Nat):Prop:=∀ x∈l,x < 4294967296
def limbsF:Nat→Nat→List Nat
 | 0,_=>[]
 | f+1,n=>if n=0 then [] else n % 4294967296 :: limbsF f (n / 4294967296)
def limbs (n:Nat):List Nat:=limbsF n n
def Canon (l:List Nat):Prop:=Lim l∧(0 < l.length→l[l.length - 1]?.getD 0≠0)
def trimN (l:List Nat):Nat→Nat
 | 0=>0
 | n+1=>if l[n]?.getD 0=0 then trimN l n else n+1
def pv (l:List Nat) (i:Nat):Nat:=val (l.take i)
def cmpTop (a b:List Nat):Nat→Int
 | 0=>0
 | n+1=>if a[n]?.getD 0 < b[n]?.getD 0 then -1 else if b[n]?.getD 0 < a[n]?.getD 0 then 1 else cmpTop a b n
def cmpL (a b:List Nat):Int:=if a.length=b.length then cmpTop a b a.length else if a.length < b.length then -1 else 1
def cmpN (a b:Nat):Int:=if a < b then -1 else if b < a then 1 else 0
theorem limbsF_fuel:∀ (f n:Nat),n≤f→limbsF f n=limbsF (f+1) n
 | 0,n,h=>by
  obtain rfl:n=0:=by omega
  simp [limbsF]
 | f+1,n,h=>by
  rw [limbsF,limbsF];by_cases h0:n=0
  ·simp [h0]
  ·rw [if_neg h0,if_neg h0,limbsF_fuel f (n / 4294967296) (by omega)]
theorem limbsF_ge (n:Nat):∀ k,limbsF (n+k) n=limbs n
 | 0=>rfl
 | k+1=>by rw [← Nat.add_assoc,← limbsF_fuel (n+k) n (by omega)]; exact limbsF_ge n k
theorem limbsF_eq {f n:Nat} (h:n≤f):limbsF f n=limbs n:=by
 have:=limbsF_ge n (f - n);rwa [show n+(f - n)=f by omega] at this
theorem limbs_zero:limbs 0=[]:=rfl
theorem limbs_pos {n:Nat} (h:0 < n):limbs n=n % 4294967296 :: limbs (n / 4294967296):=by
 obtain ⟨m,rfl⟩:∃ m,n=m+1:=⟨n - 1,by omega⟩;conv=>lhs; rw [limbs,limbsF]
 rw [if_neg (by omega),limbsF_eq (by omega)]
theorem limbs_cons {x m:Nat} (hx:x < 4294967296) (h:0 < x+4294967296 * m):limbs (x+4294967296 * m)=x :: limbs m:=by
 rw [limbs_pos h,show (x+4294967296 * m) % 4294967296=x by omega,show (x+4294967296 * m) / 4294967296=m by omega]
theorem q0j (n:Nat):val (limbs n)=n:=by
 induction n using Nat.strongRecOn with
 | ind n ih=>
  rcases Nat.eq_zero_or_pos n with rfl | h
  ·rfl
  ·rw [limbs_pos h,val,ih (n / 4294967296) (by omega)]; omega
theorem lim_limbs (n:Nat):Lim (limbs n):=by
 induction n using Nat.strongRecOn with
 | ind n ih=>
  rcases Nat.eq_zero_or_pos n with rfl | h
  ·intro x hx; cases hx
  ·rw [limbs_pos h];intro x hx;rcases List.mem_cons.1 hx with rfl | hx
   ·omega
   ·exact ih _ (by omega) x hx
theorem limbs_eq_nil {n:Nat} : limbs n=[] ↔ n=0:=by
 constructor
 ·intro h;have:=q0j n;rw [h] at this;exact this.symm
 ·rintro rfl; rfl
theorem lim_cons {x:Nat} {t:List Nat} : Lim (x :: t) ↔ x < 4294967296∧Lim t:=by
 unfold Lim;simp
theorem canon_tail {x:Nat} {t:List Nat} (h:Canon (x :: t)):Canon t:=by
 refine ⟨(lim_cons.1 h.1).2,fun hp=>?_⟩;have:=h.2 (by simp);rw [show (x :: t).length - 1=(t.length - 1)+1 by simp; omega,List.getElem?_cons_succ] at this;exact this
theorem q0i {l:List Nat} (h:Canon l) (hl:0 < l.length):0 < val l:=by
 induction l with
 | nil=>simp at hl
 | cons x t ih=>
  rw [val]
  cases t with
  | nil=>have:=h.2 (by simp); simp at this; omega
  | cons y s=>have:=ih (canon_tail h) (by simp); omega
theorem canon_eq {l:List Nat} (h:Canon l):limbs (val l)=l:=by
 induction l with
 | nil=>rfl
 | cons x t ih=>
  have hp:=q0i h (by simp);rw [val] at hp ⊢;rw [limbs_cons (lim_cons.1 h.1).1 hp,ih (canon_tail h)]
theorem q0r (n:Nat):Canon (limbs n):=by
 refine ⟨lim_limbs n,?_⟩
 induction n using Nat.strongRecOn with
 | ind n ih=>
  rcases Nat.eq_zero_or_pos n with rfl | h
  ·intro hx; simp [limbs_zero] at hx
  ·rw [limbs_pos h];intro _;rcases Nat.eq_zero_or_pos (n / 4294967296) with h0 | h0
   ·rw [h0,limbs_zero]; simp; omega
   ·have hl:0 < (limbs (n / 4294967296)).length:=by
     rcases Nat.eq_zero_or_pos (limbs (n / 4294967296)).length with e | e
     ·rw [List.length_eq_zero_iff,limbs_eq_nil] at e; omega
     ·exact e
    have:=ih _ (by omega) hl;rw [List.length_cons,show (limbs (n / 4294967296)).length+1 - 1=((limbs (n / 4294967296)).length - 1)+1 by omega,List.getElem?_cons_succ];exact this
theorem pv_zero (l:List Nat):pv l 0=0:=by simp [pv,val]
theorem val_append (a b:List Nat):val (a ++ b)=val a+4294967296 ^ a.length * val b:=by
 induction a with
 | nil=>simp [val]
 | cons x t ih=>
  rw [List.cons_append,val,ih,val,List.length_cons,Nat.pow_succ,Nat.mul_add,Nat.add_assoc,Nat.mul_comm (4294967296 ^ t.length) 4294967296,Nat.mul_assoc]
theorem q0f (l:List Nat) (i:Nat):pv l (i+1)=pv l i+l[i]?.getD 0 * 4294967296 ^ i:=by
 unfold pv;rcases Nat.lt_or_ge i l.length with h | h
 ·rw [List.take_add_one,List.getElem?_eq_getElem h,val_append];simp [val,Nat.min_eq_left (Nat.le_of_lt h),Nat.mul_comm]
 ·rw [List.take_of_length_le (by omega),List.take_of_length_le h,List.getElem?_eq_none h]; simp
theorem q0o {l:List Nat} {n:Nat} (h:l.length≤n):pv l n=val l:=by rw [pv,List.take_of_length_le h]
theorem q0e {l:List Nat} (h:Lim l) (i:Nat):l[i]?.getD 0 < 4294967296:=by
 rcases Nat.lt_or_ge i l.length with hi | hi
 ·rw [List.getElem?_eq_getElem hi]; exact h _ (List.getElem_mem hi)
 ·rw [List.getElem?_eq_none hi]; simp
theorem pv_lt {l:List Nat} (h:Lim l):∀ i,pv l i < 4294967296 ^ i
 | 0=>by simp [pv_zero]
 | i+1=>by
  have h1:=pv_lt h i;have h2:=q0e h i;rw [q0f,Nat.pow_succ];have h3:(l[i]?.getD 0+1) * 4294967296 ^ i≤4294967296 * 4294967296 ^ i:=Nat.mul_le_mul_right _ (by omega);rw [Nat.add_mul] at h3;rw [Nat.mul_comm (4294967296 ^ i)];omega
theorem val_lt {l:List Nat} (h:Lim l):val l < 4294967296 ^ l.length:=by
 have:=pv_lt h l.length;rwa [q0o (Nat.le_refl _)] at this
theorem pv_set (l:List Nat) (j x:Nat):∀ {i:Nat},i≤j→pv (l.set j x) i=pv l i
 | 0,_=>by simp [pv_zero]
 | i+1,h=>by
  rw [q0f,q0f,pv_set l j x (by omega),List.getElem?_set_ne (by omega)]
theorem q1c {l:List Nat} (h:Lim l) {j x:Nat} (hx:x < 4294967296):Lim (l.set j x):=by
 intro y hy;rcases List.mem_or_eq_of_mem_set hy with h1 | rfl
 ·exact h y h1
 ·exact hx
theorem q0g (n:Nat):Lim (List.replicate n 0):=by
 intro x hx;have:=List.eq_of_mem_replicate hx;omega
theorem lim_take {l:List Nat} (h:Lim l) (n:Nat):Lim (l.take n):=fun x hx=>h x (List.mem_of_mem_take hx)
theorem lim_drop {l:List Nat} (h:Lim l) (n:Nat):Lim (l.drop n):=fun x hx=>h x (List.mem_of_mem_drop hx)
theorem lim_append {a b:List Nat} (h:Lim a) (h':Lim b):Lim (a ++ b):=by
 intro x hx;rcases List.mem_append.1 hx with h1 | h1
 ·exact h x h1
 ·exact h' x h1
theorem lim_nil:Lim []:=fun x hx=>by cases hx
theorem lim_one {x:Nat} (h:x < 4294967296):Lim [x]:=lim_cons.2 ⟨h,lim_nil⟩
theorem trimN_le (l:List Nat):∀ n,trimN l n≤n
 | 0=>Nat.le_refl _
 | n+1=>by
  rw [trimN];split
  ·have:=trimN_le l n; omega
  ·omega
theorem pv_trimN (l:List Nat):∀ n,pv l (trimN l n)=pv l n
 | 0=>rfl
 | n+1=>by
  rw [trimN];split
  ·next h=>rw [pv_trimN l n,q0f,h]; simp
  ·rfl
theorem trimN_top (l:List Nat):∀ n,0 < trimN l n→l[trimN l n - 1]?.getD 0≠0
 | 0,h=>by simp [trimN] at h
 | n+1,h=>by
  rw [trimN] at h ⊢;split
  ·next h0=>rw [if_pos h0] at h; exact trimN_top l n h
  ·next h0=>simpa using h0
theorem canon_trim {l:List Nat} (h:Lim l) (n:Nat) (hn:n≤l.length):Canon (l.take (trimN l n)):=by
 have hle:=trimN_le l n;refine ⟨lim_take h _,fun hp=>?_⟩;rw [List.length_take,Nat.min_eq_left (by omega)] at hp ⊢;rw [List.getElem?_take_of_lt (by omega)];exact trimN_top l n hp
theorem trim_eq {l:List Nat} (h:Lim l):l.take (trimN l l.length)=limbs (val l):=by
 have hc:=canon_trim h l.length (Nat.le_refl _);rw [← canon_eq hc];congr 1
 have:=pv_trimN l l.length;rw [q0o (Nat.le_refl _)] at this;exact this
theorem trim_len {l:List Nat} (h:Lim l):trimN l l.length=(limbs (val l)).length:=by
 rw [← trim_eq h,List.length_take,Nat.min_eq_left (trimN_le _ _)]
theorem limbs_len_le {n k:Nat} : (limbs n).length≤k ↔ n < 4294967296 ^ k:=by
 constructor
 ·intro h;have h1:=val_lt (lim_limbs n);rw [q0j] at h1;exact Nat.lt_of_lt_of_le h1 (Nat.pow_le_pow_right (by omega) h)
 ·intro h;rcases Nat.lt_or_ge k (limbs n).length with hk | hk
  ·exfalso
   have hc:=(q0r n).2 (by omega);have h1:pv (limbs n) (limbs n).length=n:=(by rw [q0o (Nat.le_refl _),q0j]);rw [show (limbs n).length=((limbs n).length - 1)+1 by omega,q0f] at h1;have h2:4294967296 ^ k≤4294967296 ^ ((limbs n).length - 1):=Nat.pow_le_pow_right (by omega) (by omega);have h3:1 * 4294967296 ^ ((limbs n).length - 1)≤(limbs n)[(limbs n).length - 1]?.getD 0 * 4294967296 ^ ((limbs n).length - 1):=Nat.mul_le_mul_right _ (by omega);omega
  ·exact hk
theorem cmpTop_pv {a b:List Nat} (ha:Lim a) (hb:Lim b):∀ n,cmpTop a b n=cmpN (pv a n) (pv b n)
 | 0=>by simp [cmpTop,pv_zero,cmpN]
 | n+1=>by
  have h1:=pv_lt ha n;have h2:=pv_lt hb n;rw [cmpTop,cmpTop_pv ha hb n,q0f,q0f];generalize a[n]?.getD 0=x,b[n]?.getD 0=y at *;generalize 4294967296 ^ n=p at *;rcases Nat.lt_trichotomy x y with h | h | h
  ·have h3:(x+1) * p≤y * p:=Nat.mul_le_mul_right _ h;rw [Nat.add_mul] at h3;rw [if_pos h,cmpN,if_pos (by omega)]
  ·subst h;rw [if_neg (by omega),if_neg (by omega)];simp only [cmpN,Nat.add_lt_add_iff_right]
  ·have h3:(y+1) * p≤x * p:=Nat.mul_le_mul_right _ h;rw [Nat.add_mul] at h3;rw [if_neg (by omega),if_pos h,cmpN,if_neg (by omega),if_pos (by omega)]
theorem cmpL_canon {a b:List Nat} (ha:Canon a) (hb:Canon b):cmpL a b=cmpN (val a) (val b):=by
 unfold cmpL;by_cases h:a.length=b.length
 ·rw [if_pos h,cmpTop_pv ha.1 hb.1,q0o (Nat.le_refl _),h,q0o (Nat.le_refl _)]
 ·rw [if_neg h]
  have key:∀ {c d:List Nat},Canon c→Canon d→c.length < d.length→val c < val d:=by
   intro c d hc hd hlt;have h1:=val_lt hc.1;have h2:=hd.2 (by omega);have h3:pv d d.length=val d:=q0o (Nat.le_refl _);rw [show d.length=(d.length - 1)+1 by omega,q0f] at h3;have h4:4294967296 ^ c.length≤4294967296 ^ (d.length - 1):=Nat.pow_le_pow_right (by omega) (by omega);have h5:1 * 4294967296 ^ (d.length - 1)≤d[d.length - 1]?.getD 0 * 4294967296 ^ (d.length - 1):=Nat.mul_le_mul_right _ (by omega);omega
  rcases Nat.lt_or_ge a.length b.length with hl | hl
  ·have:=key ha hb hl;rw [if_pos hl,cmpN,if_pos this]
  ·have:=key hb ha (by omega);rw [if_neg (by omega),cmpN,if_neg (by omega),if_pos this]
def badL (neg:Bool) (l:List Nat):Bool:=(decide (4096 < l.length) || (decide (0 < l.length) && l[l.length - 1]?.getD 0 == 0)) || (decide (l.length=0) && neg)
def chk (neg:Bool) (l:List Nat):Int:=if badL neg l then 8 else 0
def chk2 (n1:Bool) (l1:List Nat) (n2:Bool) (l2:List Nat):Int:=if badL n1 l1 then 8 else chk n2 l2
theorem chk_bad {neg:Bool} {l:List Nat} (h:badL neg l=true):chk neg l=8:=by rw [chk,if_pos h]
theorem chk_good {neg:Bool} {l:List Nat} (h:badL neg l=false):chk neg l=0:=by rw [chk,if_neg (by simp [h])]
theorem q0k {neg:Bool} {l:List Nat} (hl:Lim l) (h:badL neg l=false):Canon l∧l.length≤4096∧(neg=true→0 < l.length):=by
 simp only [badL,Bool.or_eq_false_iff,Bool.and_eq_false_iff,decide_eq_false_iff_not,beq_eq_false_iff_ne] at h;obtain ⟨⟨h1,h2⟩,h3⟩:=h;refine ⟨⟨hl,fun hp=>?_⟩,by omega,fun hn=>?_⟩
 ·rcases h2 with h2 | h2
  ·omega
  ·exact h2
 ·rcases h3 with h3 | h3
  ·omega
  ·rw [hn] at h3; cases h3
def outN (neg:Bool) (n:Nat):(Bool × List Nat) × Int:=if (limbs n).length≤4096 then ((neg && decide (0 < n),limbs n),0) else ((false,[]),16)
theorem limbs_len_pos {n:Nat} : 0 < (limbs n).length ↔ 0 < n:=by
 rw [List.length_pos_iff,ne_eq,limbs_eq_nil]; omega
end Go.Proofs.YtgnjhlnolihgcaaGreat
namespace Go.Proofs.YtgnjhlnolihgcaaGreat
def zv (neg:Bool) (l:List Nat):Int:=if neg then -(val l:Int) else (val l:Int)
def outZ (z:Int):(Bool × List Nat) × Int:=outN (decide (z < 0)) z.natAbs
def wOf (z:Int):Bool × List Nat:=(decide (z < 0),limbs z.natAbs)
def cmpZ (a b:Int):Int:=if a < b then -1 else if b < a then 1 else 0
theorem outN_zv (neg:Bool) (n:Nat):outN neg n=outZ (if neg then -(n:Int) else (n:Int)):=by
 unfold outZ;cases neg
 ·have:decide ((n:Int) < 0)=false:=(by rw [decide_eq_false_iff_not]; omega);simp only [Bool.false_eq_true,if_false,this,Int.natAbs_natCast]
 ·simp only [if_true,Int.natAbs_neg,Int.natAbs_natCast];unfold outN;by_cases h:(0:Nat) < n
  ·rw [show decide (-(n:Int) < 0)=true by rw [decide_eq_true_iff]; omega]
  ·rw [show n=0 by omega]; rfl
theorem outZ_fit {z:Int} (h:(limbs z.natAbs).length≤4096):outZ z=(wOf z,0):=by
 unfold outZ outN wOf;rw [if_pos h];by_cases h0:(0:Nat) < z.natAbs
 ·rw [decide_eq_true h0,Bool.and_true]
 ·obtain rfl:z=0:=by omega
  rfl
theorem good_wOf {neg:Bool} {l:List Nat} (hl:Lim l) (h:badL neg l=false):(neg,l)=wOf (zv neg l)∧(limbs (zv neg l).natAbs).length≤4096:=by
 obtain ⟨hc,h1,h2⟩:=q0k hl h;have hn:(zv neg l).natAbs=val l:=(by unfold zv; cases neg <;> simp);rw [hn,canon_eq hc];refine ⟨?_,h1⟩;unfold wOf;rw [hn,canon_eq hc];congr 1
 unfold zv;cases neg
 ·simp
 ·have:=q0i hc (h2 rfl);simp; omega
theorem wOf_good (z:Int) (h:(limbs z.natAbs).length≤4096):badL (wOf z).1 (wOf z).2=false:=by
 unfold wOf badL;have hc:=q0r z.natAbs;have h1:decide (4096 < (limbs z.natAbs).length)=false:=(by rw [decide_eq_false_iff_not]; omega);simp only [h1,Bool.false_or,Bool.or_eq_false_iff,Bool.and_eq_false_iff,decide_eq_false_iff_not,beq_eq_false_iff_ne];constructor
 ·by_cases h0:0 < (limbs z.natAbs).length
  ·exact .inr (hc.2 h0)
  ·exact .inl h0
 ·by_cases h0:(limbs z.natAbs).length=0
  ·right
   rw [List.length_eq_zero_iff,limbs_eq_nil] at h0;omega
  ·exact .inl h0
theorem zv_wOf (z:Int):zv (wOf z).1 (wOf z).2=z:=by
 unfold wOf zv;simp only [q0j,decide_eq_true_eq];split <;> omega
def negS (n:Bool) (l:List Nat):(Bool × List Nat) × Int:=if badL n l then ((false,[]),8) else outN (!n) (val l)
def intS (n:Bool) (l:List Nat):Int × Int:=
 if badL n l then (0,8) else if -9223372036854775808≤zv n l∧zv n l≤9223372036854775807 then (zv n l,0) else (0,16)
def cmpS (n1:Bool) (l1:List Nat) (n2:Bool) (l2:List Nat):Int × Int:=
 if badL n1 l1 || badL n2 l2 then (0,8) else (cmpZ (zv n1 l1) (zv n2 l2),0)
def q0s (n:Nat):Nat:=if n=0 then 0 else n.log2+1
theorem chk2_eq (n1:Bool) (l1:List Nat) (n2:Bool) (l2:List Nat):chk2 n1 l1 n2 l2=if badL n1 l1 || badL n2 l2 then 8 else 0:=by
 unfold chk2 chk;cases badL n1 l1 <;> simp
def cmpW (n1:Bool) (l1:List Nat) (n2:Bool) (l2:List Nat):Int:=
 if n1 && !n2 then -1 else if !n1 && n2 then 1 else if n1 then cmpL l2 l1 else cmpL l1 l2
theorem cmpW_good {n1 n2:Bool} {l1 l2:List Nat} (h1:Lim l1) (h2:Lim l2) (g1:badL n1 l1=false) (g2:badL n2 l2=false):cmpW n1 l1 n2 l2=cmpZ (zv n1 l1) (zv n2 l2):=by
 obtain ⟨k1,_,p1⟩:=q0k h1 g1;obtain ⟨k2,_,p2⟩:=q0k h2 g2;have q1:n1=true→0 < val l1:=fun h=>q0i k1 (p1 h);have q2:n2=true→0 < val l2:=fun h=>q0i k2 (p2 h);unfold cmpW;rw [cmpL_canon k1 k2,cmpL_canon k2 k1];unfold zv cmpZ cmpN;cases n1 <;> cases n2
 ·simp
 ·have:=q2 rfl;simp only [Bool.not_true,Bool.and_false,Bool.false_eq_true,if_false,Bool.not_false,Bool.and_true,if_true];rw [if_neg (by omega),if_pos (by omega)]
 ·have:=q1 rfl;simp only [Bool.not_false,Bool.and_true,if_true,Bool.false_eq_true,if_false];rw [if_pos (by omega)]
 ·simp only [Bool.not_true,Bool.and_false,Bool.false_eq_true,if_false,Bool.false_and,if_true,Int.neg_lt_neg_iff,Int.ofNat_lt]
theorem chk2_bad {n1 n2:Bool} {l1 l2:List Nat} (h:(badL n1 l1 || badL n2 l2)=true):chk2 n1 l1 n2 l2=8:=by rw [chk2_eq,if_pos h]
theorem chk2_good {n1 n2:Bool} {l1 l2:List Nat} (h:(badL n1 l1 || badL n2 l2)=false):chk2 n1 l1 n2 l2=0:=by rw [chk2_eq,if_neg (by simp [h])]
theorem add_same (n:Bool) (l1 l2:List Nat):outN n (val l1+val l2)=outZ (zv n l1+zv n l2):=by
 rw [outN_zv]; congr 1; unfold zv; cases n <;> simp; omega
theorem add_ge {n1 n2:Bool} {l1 l2:List Nat} (hn:n1≠n2) (h:val l2≤val l1):outN n1 (val l1 - val l2)=outZ (zv n1 l1+zv n2 l2):=by
 rw [outN_zv]; congr 1; unfold zv; cases n1 <;> cases n2 <;> simp at hn ⊢ <;> omega
theorem add_lt {n1 n2:Bool} {l1 l2:List Nat} (hn:n1≠n2) (h:val l1≤val l2):outN n2 (val l2 - val l1)=outZ (zv n1 l1+zv n2 l2):=by
 rw [outN_zv]; congr 1; unfold zv; cases n1 <;> cases n2 <;> simp at hn ⊢ <;> omega
theorem q1b {a b:List Nat} (ha:Canon a) (hb:Canon b) (h:val a≤val b):a.length≤b.length:=by
 rw [← canon_eq ha,← canon_eq hb,limbs_len_le];exact Nat.lt_of_le_of_lt h (limbs_len_le.1 (Nat.le_refl _))
theorem cmpL_ge {a b:List Nat} (ha:Canon a) (hb:Canon b) (h:val b≤val a):0≤cmpL a b:=by
 rw [cmpL_canon ha hb]; unfold cmpN; rw [if_neg (by omega)]; split <;> omega
theorem cmpL_lt {a b:List Nat} (ha:Canon a) (hb:Canon b) (h:val a < val b):cmpL a b = -1:=by
 rw [cmpL_canon ha hb]; unfold cmpN; rw [if_pos h]
end Go.Proofs.YtgnjhlnolihgcaaGreat
namespace Go.Proofs.YtgnjhlnolihgcaaGreat
theorem pv_set_succ {o:List Nat} {k s:Nat} (hk:k < o.length):pv (o.set k s) (k+1)=pv o k+s * 4294967296 ^ k:=by
 rw [q0f,pv_set o k s (Nat.le_refl k),List.getElem?_set_self hk,Option.getD_some]
theorem carry_step (t p:Nat):t % 4294967296 * p+t / 4294967296 * (p * 4294967296)=t * p:=by
 have h:=Nat.mod_add_div t 4294967296;conv=>rhs; rw [← h]
 rw [Nat.add_mul,Nat.mul_comm p 4294967296,← Nat.mul_assoc,Nat.mul_comm (t / 4294967296) 4294967296]
theorem plus_step {o a b:List Nat} {k c:Nat} (hk:k < o.length) (h:pv o k+c * 4294967296 ^ k=pv a k+pv b k) :
  pv (o.set k ((a[k]?.getD 0+b[k]?.getD 0+c) % 4294967296)) (k+1)+(a[k]?.getD 0+b[k]?.getD 0+c) / 4294967296 * 4294967296 ^ (k+1)=pv a (k+1)+pv b (k+1):=by
 rw [pv_set_succ hk,q0f a,q0f b,Nat.pow_succ,Nat.add_assoc,carry_step,Nat.add_mul,Nat.add_mul];omega
theorem plus_end {o a b:List Nat} {c n:Nat} (hn:n < o.length) (hl:o.length=n+1) (ha:a.length≤n) (hb:b.length≤n) (h:pv o n+c * 4294967296 ^ n=pv a n+pv b n):val (o.set n c)=val a+val b:=by
 rw [q0o ha,q0o hb] at h;have h1:pv (o.set n c) (n+1)=val (o.set n c):=q0o (by simp; omega);rw [← h1,pv_set_succ hn,h]
theorem minus_step {o a b:List Nat} {k c d c':Nat} (hk:k < o.length) (hd:a[k]?.getD 0+c' * 4294967296=d+b[k]?.getD 0+c) (h:pv o k+pv b k=pv a k+c * 4294967296 ^ k) :
  pv (o.set k d) (k+1)+pv b (k+1)=pv a (k+1)+c' * 4294967296 ^ (k+1):=by
 rw [pv_set_succ hk,q0f a,q0f b,Nat.pow_succ];generalize 4294967296 ^ k=P at *;have h2:(a[k]?.getD 0+c' * 4294967296) * P=(d+b[k]?.getD 0+c) * P:=(by rw [hd]);rw [Nat.add_mul,Nat.add_mul,Nat.add_mul] at h2;have h3:c' * (P * 4294967296)=c' * 4294967296 * P:=(by rw [Nat.mul_comm P,Nat.mul_assoc]);omega
theorem minus_end {o a b:List Nat} {c n:Nat} (hl:o.length=n) (ho:Lim o) (ha:a.length≤n) (hb:b.length≤n) (hle:val b≤val a) (h:pv o n+pv b n=pv a n+c * 4294967296 ^ n):val o=val a - val b:=by
 rw [q0o ha,q0o hb,q0o (by omega)] at h;have h1:=val_lt ho;rw [hl] at h1;rcases Nat.eq_zero_or_pos c with h0 | h0
 ·subst h0; omega
 ·have:1 * 4294967296 ^ n≤c * 4294967296 ^ n:=Nat.mul_le_mul_right _ h0;omega
theorem val_set {o:List Nat} : ∀ {j s:Nat},j < o.length→val (o.set j s)+o[j]?.getD 0 * 4294967296 ^ j=val o+s * 4294967296 ^ j:=by
 induction o with
 | nil=>intro j s h; simp at h
 | cons x t ih=>
  intro j s h
  cases j with
  | zero=>simp [val]; omega
  | succ j=>
   have:=ih (j:=j) (s:=s) (by simpa using h);rw [List.set_cons_succ,val,val,List.getElem?_cons_succ,Nat.pow_succ,← Nat.mul_assoc,← Nat.mul_assoc];omega
theorem times_step {o b:List Nat} {i k x c V:Nat} (hj:i+k < o.length) (h:val o+c * 4294967296 ^ (i+k)=V+x * pv b k * 4294967296 ^ i) :
  val (o.set (i+k) ((c+(x * b[k]?.getD 0+o[i+k]?.getD 0)) % 4294967296))+(c+(x * b[k]?.getD 0+o[i+k]?.getD 0)) / 4294967296 * 4294967296 ^ (i+(k+1))=V+x * pv b (k+1) * 4294967296 ^ i:=by
 have h1:=val_set (s:=(c+(x * b[k]?.getD 0+o[i+k]?.getD 0)) % 4294967296) hj;have h2:=carry_step (c+(x * b[k]?.getD 0+o[i+k]?.getD 0)) (4294967296 ^ (i+k));rw [Nat.add_mul,Nat.add_mul] at h2;rw [← Nat.add_assoc i k 1,Nat.pow_succ,q0f,Nat.mul_add,Nat.add_mul]
 have h3:x * (b[k]?.getD 0 * 4294967296 ^ k) * 4294967296 ^ i=x * b[k]?.getD 0 * 4294967296 ^ (i+k):=by
  rw [Nat.pow_add,Nat.mul_assoc,Nat.mul_assoc,Nat.mul_assoc,Nat.mul_comm (4294967296 ^ k)]
 omega
theorem times_row {o a b:List Nat} {i x c n:Nat} (hj:i+n < o.length) (hz:o[i+n]?.getD 0=0) (hx:a[i]?.getD 0=x) (hb:b.length≤n) (h:val o+c * 4294967296 ^ (i+n)=pv a i * val b+x * pv b n * 4294967296 ^ i) :
  val (o.set (i+n) c)=pv a (i+1) * val b:=by
 have h1:=val_set (s:=c) hj;rw [hz,q0o hb] at *;rw [q0f,hx,Nat.add_mul];have h3:x * 4294967296 ^ i * val b=x * val b * 4294967296 ^ i:=(by rw [Nat.mul_assoc,Nat.mul_assoc,Nat.mul_comm (4294967296 ^ i)]);omega
theorem getD_set_ne {o:List Nat} {i j s:Nat} (h:i≠j):(o.set i s)[j]?.getD 0=o[j]?.getD 0:=by rw [List.getElem?_set_ne h]
theorem sub_eq {x y c:Nat} (hx:x < 4294967296) (hy:y < 4294967296) (hc:c≤1):x+(if x < y+c then 1 else 0) * 4294967296=(x+8589934592 - y - c) % 4294967296+y+c:=by
 split <;> omega
theorem val_replicate:∀ n,val (List.replicate n 0)=0
 | 0=>rfl
 | n+1=>by rw [List.replicate_succ,val,val_replicate n]
theorem getD_replicate (n j:Nat):(List.replicate n 0)[j]?.getD 0=0:=by
 rw [List.getElem?_replicate]; split <;> rfl
end Go.Proofs.YtgnjhlnolihgcaaGreat
namespace Go.Proofs.YtgnjhlnolihgcaaGreat
def addS (n1:Bool) (l1:List Nat) (n2:Bool) (l2:List Nat):(Bool × List Nat) × Int:=if badL n1 l1 || badL n2 l2 then ((false,[]),8) else outZ (zv n1 l1+zv n2 l2)
def mulS (n1:Bool) (l1:List Nat) (n2:Bool) (l2:List Nat):(Bool × List Nat) × Int:=if badL n1 l1 || badL n2 l2 then ((false,[]),8) else outZ (zv n1 l1 * zv n2 l2)
theorem mul_zv (n1 n2:Bool) (l1 l2:List Nat):outN (n1 != n2) (val l1 * val l2)=outZ (zv n1 l1 * zv n2 l2):=by
 rw [outN_zv]; congr 1; unfold zv; cases n1 <;> cases n2 <;> simp [Int.neg_mul,Int.mul_neg]
end Go.Proofs.YtgnjhlnolihgcaaGreat
namespace Go.Proofs.YtgnjhlnolihgcaaGreat
theorem val_split (l:List Nat) (k:Nat):val l=pv l k+4294967296 ^ k * val (l.drop k):=by
 rcases Nat.lt_or_ge k l.length with h | h
 ·conv=>lhs; rw [← List.take_append_drop k l,val_append,List.length_take,Nat.min_eq_left (by omega)]
  rfl
 ·rw [q0o h,List.drop_of_length_le h]; simp [val]
theorem val_drop {l:List Nat} {m:Nat} (h:m < l.length):val (l.drop m)=l[m]?.getD 0+4294967296 * val (l.drop (m+1)):=by
 rw [List.drop_eq_getElem_cons h,val,List.getElem?_eq_getElem h]; rfl
theorem val_drop_set {l:List Nat} {m x:Nat} (h:m < l.length):val ((l.set m x).drop m)=x+4294967296 * val (l.drop (m+1)):=by
 rw [val_drop (by simpa using h),List.getElem?_set_self h,List.drop_set];simp
theorem val_drop_end (l:List Nat):val (l.drop l.length)=0:=by simp [val]
theorem ldiv_lt {r x D:Nat} (hr:r < D) (hx:x < 4294967296):(r * 4294967296+x) / D < 4294967296:=by
 rw [Nat.div_lt_iff_lt_mul (by omega)];have:(r+1) * 4294967296≤D * 4294967296:=Nat.mul_le_mul_right _ hr;rw [Nat.mul_comm D] at this;omega
theorem ldiv_step {o l:List Nat} {D m r:Nat} (hD:0 < D) (hm:m < l.length) (hol:o.length=l.length) (hq:val (o.drop (m+1))=val (l.drop (m+1)) / D) (hr:r=val (l.drop (m+1)) % D) :
  val ((o.set m ((r * 4294967296+l[m]?.getD 0) / D)).drop m)=val (l.drop m) / D∧(r * 4294967296+l[m]?.getD 0) % D=val (l.drop m) % D:=by
 rw [val_drop_set (by omega),val_drop hm,hq];generalize l[m]?.getD 0=x;generalize val (l.drop (m+1))=V at *;have h1:=Nat.div_add_mod V D
 have h2:x+4294967296 * V=D * (4294967296 * (V / D))+(r * 4294967296+x):=by
  rw [hr];have:4294967296 * V=4294967296 * (D * (V / D))+4294967296 * (V % D):=(by rw [← Nat.mul_add,h1]);rw [this,← Nat.mul_assoc,← Nat.mul_assoc,Nat.mul_comm 4294967296 D];omega
 rw [h2];constructor
 ·rw [Nat.mul_add_div hD]; omega
 ·rw [Nat.mul_add_mod]
theorem msub_step {o u v:List Nat} {k q c b d b':Nat} (hk:k < o.length) (hd:o[k]?.getD 0+b' * 4294967296=d+(c+q * v[k]?.getD 0) % 4294967296+b) (hou:o[k]?.getD 0=u[k]?.getD 0)
  (h:pv o k+q * pv v k=pv u k+(b+c) * 4294967296 ^ k) :
  pv (o.set k d) (k+1)+q * pv v (k+1)=pv u (k+1)+(b'+(c+q * v[k]?.getD 0) / 4294967296) * 4294967296 ^ (k+1):=by
 rw [pv_set_succ hk,q0f u,q0f v,Nat.pow_succ,← hou];generalize o[k]?.getD 0=x at *;have h1:=carry_step (c+q * v[k]?.getD 0) (4294967296 ^ k);generalize v[k]?.getD 0=y at *;generalize (c+q * y) % 4294967296=R at *;generalize (c+q * y) / 4294967296=X at *;generalize hP:4294967296 ^ k=P at *;have h2:(x+b' * 4294967296) * P=(d+R+b) * P:=(by rw [hd]);have h3:b' * (P * 4294967296)=b' * 4294967296 * P:=(by rw [Nat.mul_comm P,Nat.mul_assoc]);have h4:q * (y * P)=q * y * P:=(Nat.mul_assoc _ _ _).symm;rw [Nat.mul_add,h4,Nat.add_mul,h3];rw [Nat.add_mul,Nat.add_mul,Nat.add_mul] at h2;rw [Nat.add_mul] at h1 h;omega
theorem msub_last {o u v:List Nat} {n q c b d b':Nat} (hn:n < o.length) (hlo:o.length=n+1) (hlu:u.length=n+1) (hv:v.length≤n) (hd:o[n]?.getD 0+b' * 4294967296=d+c+b) (hou:o[n]?.getD 0=u[n]?.getD 0)
  (h:pv o n+q * pv v n=pv u n+(b+c) * 4294967296 ^ n):val (o.set n d)+q * val v=val u+b' * 4294967296 ^ (n+1):=by
 have e1:val (o.set n d)=pv (o.set n d) (n+1):=(q0o (by simp; omega)).symm;have e2:val u=pv u (n+1):=(q0o (by omega)).symm;have e3:val v=pv v n:=(q0o hv).symm;rw [e1,e2,e3,pv_set_succ hn,q0f u,Nat.pow_succ,← hou];generalize o[n]?.getD 0=x at *;generalize hP:4294967296 ^ n=P at *;have h2:(x+b' * 4294967296) * P=(d+c+b) * P:=(by rw [hd]);rw [Nat.add_mul,Nat.add_mul,Nat.add_mul] at h2;have h3:b' * (P * 4294967296)=b' * 4294967296 * P:=(by rw [Nat.mul_comm P,Nat.mul_assoc]);rw [Nat.add_mul] at h;omega
theorem msub_end {o u v:List Nat} {n q b:Nat} (ho:Lim o) (hlo:o.length=n+1) (hb:b≤1) (h:val o+q * val v=val u+b * 4294967296 ^ (n+1)) :
  (q * val v≤val u ↔ b=0)∧(b=0→val o=val u - q * val v):=by
 have h1:=val_lt ho;rw [hlo] at h1;generalize 4294967296 ^ (n+1)=P at *;rcases Nat.eq_zero_or_pos b with h0 | h0
 ·subst h0; omega
 ·obtain rfl:b=1:=by omega
  omega
theorem digit_le {u v:List Nat} {n:Nat} (hn:0 < n) (hlu:u.length=n+1) (hlv:v.length=n) (hu:Lim u) (hv0:0 < v[n - 1]?.getD 0) :
  val u / val v≤(u[n]?.getD 0 * 4294967296+u[n - 1]?.getD 0) / v[n - 1]?.getD 0:=by
 have hvv:val v=pv v (n - 1)+v[n - 1]?.getD 0 * 4294967296 ^ (n - 1):=by
  rw [← q0f,show n - 1+1=n by omega,q0o (by omega)]
 have huu:val u=pv u (n - 1)+(u[n]?.getD 0 * 4294967296+u[n - 1]?.getD 0) * 4294967296 ^ (n - 1):=by
  have:val u=pv u (n - 1+1+1):=(q0o (by omega)).symm;rw [this,q0f,q0f,show n - 1+1=n by omega]
  have:4294967296 ^ n=4294967296 ^ (n - 1) * 4294967296:=by
   obtain ⟨m,rfl⟩:∃ m,n=m+1:=⟨n - 1,by omega⟩;rw [Nat.pow_succ]; rfl
  rw [this,Nat.add_mul,Nat.mul_assoc (u[n]?.getD 0),Nat.mul_comm 4294967296];omega
 have hlt:=pv_lt hu (n - 1);generalize hP:4294967296 ^ (n - 1)=P at *;generalize u[n]?.getD 0 * 4294967296+u[n - 1]?.getD 0=T at *;generalize v[n - 1]?.getD 0=y at *;rw [Nat.le_div_iff_mul_le hv0];have h1:=Nat.div_mul_le_self (val u) (val v);have h2:val u / val v * (y * P)≤val u / val v * val v:=Nat.mul_le_mul_left _ (by omega);rcases Nat.lt_or_ge T (val u / val v * y) with h3 | h3
 ·exfalso
  have h4:(T+1) * P≤val u / val v * y * P:=Nat.mul_le_mul_right _ h3;rw [Nat.mul_assoc] at h4;rw [Nat.add_mul] at h4;omega
 ·exact h3
theorem digit_lt {a b:Nat} (h:a < b * 4294967296):a / b < 4294967296:=by
 rcases Nat.eq_zero_or_pos b with h0 | h0
 ·subst h0; omega
 ·rw [Nat.div_lt_iff_lt_mul h0,Nat.mul_comm]; omega
theorem digit_fit {a b q:Nat} (hq:a / b≤q) (h:q * b≤a) (hb:0 < b):q=a / b∧a - q * b=a % b:=by
 have h1:q≤a / b:=(Nat.le_div_iff_mul_le hb).2 h;obtain rfl:q=a / b:=by omega
 refine ⟨rfl,?_⟩;have:=Nat.div_add_mod a b;rw [Nat.mul_comm] at this;omega
end Go.Proofs.YtgnjhlnolihgcaaGreat
namespace Go.Proofs.YtgnjhlnolihgcaaGreat
theorem shl_lt {cr x s:Nat} (hc:cr < 2 ^ s) (hx:x < 4294967296):cr+x * 2 ^ s < 2 ^ s * 4294967296:=by
 have:(x+1) * 2 ^ s≤4294967296 * 2 ^ s:=Nat.mul_le_mul_right _ hx;rw [Nat.add_mul,Nat.mul_comm 4294967296] at this;omega
theorem shl_out {cr x s:Nat} (hc:cr < 2 ^ s) (hx:x < 4294967296):(cr+x * 2 ^ s) / 4294967296 < 2 ^ s:=by
 rw [Nat.div_lt_iff_lt_mul (by omega)];exact shl_lt hc hx
theorem pow_s {s:Nat} (hs:s < 32):2 ^ s≤2147483648:=Nat.pow_le_pow_right (by omega) (show s≤31 by omega)
theorem val_snoc (o:List Nat) (x:Nat):val (o ++ [x])=val o+x * 4294967296 ^ o.length:=by
 rw [val_append]; simp [val,Nat.mul_comm]
theorem left_step {o l:List Nat} {cr P B k:Nat} (h:val o+cr * 4294967296 ^ o.length=B * (pv l k * P)) (hB:4294967296 ^ o.length=B * 4294967296 ^ k) :
  val (o ++ [(cr+l[k]?.getD 0 * P) % 4294967296])+(cr+l[k]?.getD 0 * P) / 4294967296 * 4294967296 ^ (o.length+1)=B * (pv l (k+1) * P):=by
 rw [val_snoc,q0f,Nat.pow_succ];have h1:=carry_step (cr+l[k]?.getD 0 * P) (4294967296 ^ o.length);generalize l[k]?.getD 0=x at *;generalize (cr+x * P) % 4294967296=R at *;generalize (cr+x * P) / 4294967296=X at *
 have h2:x * P * 4294967296 ^ o.length=B * (x * 4294967296 ^ k * P):=by
  rw [hB];simp only [Nat.mul_assoc,Nat.mul_comm,Nat.mul_left_comm]
 rw [Nat.add_mul] at h1;rw [Nat.add_mul (pv l k),Nat.mul_add,← h2];omega
theorem left_end {o l:List Nat} {cr P B:Nat} (h:val o+cr * 4294967296 ^ o.length=B * (pv l l.length * P)):val (o ++ [cr])=val l * (B * P):=by
 rw [val_snoc,h,q0o (Nat.le_refl _),Nat.mul_left_comm]
theorem pow_split (k:Nat):4294967296 ^ (k / 32) * 2 ^ (k % 32)=2 ^ k:=by
 rw [show (4294967296:Nat)=2 ^ 32 by rfl,← Nat.pow_mul,← Nat.pow_add,show 32 * (k / 32)+k % 32=k by omega]
end Go.Proofs.YtgnjhlnolihgcaaGreat
namespace Go.Proofs.YtgnjhlnolihgcaaGreat
theorem val_take_of_lt {l:List Nat} {k:Nat} (h:val l < 4294967296 ^ k):val (l.take k)=val l∧val (l.drop k)=0:=by
 have h1:=val_split l k;have h2:pv l k=val (l.take k):=rfl;rcases Nat.eq_zero_or_pos (val (l.drop k)) with h0 | h0
 ·rw [h0] at h1; omega
 ·have:4294967296 ^ k * 1≤4294967296 ^ k * val (l.drop k):=Nat.mul_le_mul_left _ h0;omega
theorem canon_top {b:List Nat} (hb:Canon b) (hl:0 < b.length):4294967296 ^ (b.length - 1)≤val b:=by
 have h1:val b=pv b (b.length - 1+1):=(q0o (by omega)).symm;rw [q0f] at h1;have h2:=hb.2 hl;have h3:1 * 4294967296 ^ (b.length - 1)≤b[b.length - 1]?.getD 0 * 4294967296 ^ (b.length - 1):=Nat.mul_le_mul_right _ (by omega);omega
theorem norm_lt {b:List Nat} (hb:Lim b) {s:Nat} (hs:s < 32) (hl:0 < b.length) (ht:b[b.length - 1]?.getD 0 * 2 ^ s < 4294967296):val b * 2 ^ s < 4294967296 ^ b.length:=by
 have h1:val b=pv b (b.length - 1+1):=(q0o (by omega)).symm;rw [q0f] at h1;have h2:=pv_lt hb (b.length - 1);have hp:4294967296 ^ b.length=4294967296 ^ (b.length - 1) * 4294967296:=(by rw [← Nat.pow_succ,show (b.length - 1).succ=b.length by omega]);rw [hp];generalize b[b.length - 1]?.getD 0=t at *;generalize 4294967296 ^ (b.length - 1)=B at *
 have h3:(t+1) * 2 ^ s≤4294967296:=by
  have e:(4294967296:Nat)=2 ^ (32 - s) * 2 ^ s:=(by rw [← Nat.pow_add,show 32 - s+s=32 by omega]);rw [e] at ht ⊢;have h9:t < 2 ^ (32 - s):=Nat.lt_of_mul_lt_mul_right ht;exact Nat.mul_le_mul_right _ h9
 have h4:val b < (t+1) * B:=(by rw [Nat.add_mul]; omega);have h5:0 < 2 ^ s:=Nat.pow_pos (by omega);have h6:val b * 2 ^ s < (t+1) * B * 2 ^ s:=Nat.mul_lt_mul_of_pos_right h4 h5;have h7:(t+1) * B * 2 ^ s=B * ((t+1) * 2 ^ s):=(by rw [Nat.mul_comm (t+1) B,Nat.mul_assoc]);have h8:B * ((t+1) * 2 ^ s)≤B * 4294967296:=Nat.mul_le_mul_left _ h3;omega
theorem norm_top {v:List Nat} {n B:Nat} (hn:0 < n) (hl:v.length=n) (hv:Lim v) (h:4294967296 ^ (n - 1)≤B) (hB:B≤val v):0 < v[n - 1]?.getD 0:=by
 rcases Nat.eq_zero_or_pos (v[n - 1]?.getD 0) with h0 | h0
 ·exfalso
  have h1:val v=pv v (n - 1+1):=(q0o (by omega)).symm;rw [q0f,h0] at h1;have:=pv_lt hv (n - 1);omega
 ·exact h0
theorem div_start {a b u:List Nat} {s m:Nat} (ha:Lim a) (hb:Canon b) (hlb:0 < b.length) (hu:val u=val a * 2 ^ s) (hm:m+b.length=a.length+1):val (u.drop m) < val b * 2 ^ s:=by
 have h1:=val_split u m;have h2:=val_lt ha;have h3:=canon_top hb hlb;have h5:0 < 2 ^ s:=Nat.pow_pos (by omega);have e:4294967296 ^ a.length=4294967296 ^ m * 4294967296 ^ (b.length - 1):=by rw [← Nat.pow_add]; congr 1; omega
 have h4:4294967296 ^ m * val (u.drop m) < 4294967296 ^ m * (4294967296 ^ (b.length - 1) * 2 ^ s):=by
  rw [← Nat.mul_assoc,← e];have:val a * 2 ^ s < 4294967296 ^ a.length * 2 ^ s:=Nat.mul_lt_mul_of_pos_right h2 h5;omega
 have h6:=Nat.lt_of_mul_lt_mul_left h4;have h7:4294967296 ^ (b.length - 1) * 2 ^ s≤val b * 2 ^ s:=Nat.mul_le_mul_right _ h3;omega
theorem div_seg {u v:List Nat} {j n:Nat} (hu:Lim u) (hj:j < u.length) (hv:val v < 4294967296 ^ n) (hlt:val (u.drop (j+1)) < val v) :
  val ((u.drop j).take (n+1))=val (u.drop j)∧val (u.drop j) < val v * 4294967296∧val (u.drop (j+(n+1)))=0:=by
 have h1:=val_drop hj;have h2:=q0e hu j;have h3:(val (u.drop (j+1))+1) * 4294967296≤val v * 4294967296:=Nat.mul_le_mul_right _ hlt;rw [Nat.add_mul,Nat.mul_comm (val (u.drop (j+1)))] at h3;have h4:val v * 4294967296≤4294967296 ^ (n+1):=(by rw [Nat.pow_succ]; exact Nat.mul_le_mul_right _ (by omega));have h5:=val_take_of_lt (l:=u.drop j) (k:=n+1) (by omega);refine ⟨h5.1,by omega,?_⟩;rw [← List.drop_drop]; exact h5.2
theorem div_round {u u0 q s:List Nat} {j V d:Nat} (hj:j < u.length) (hu0:u0.length=u.length) (hq:j < q.length) (htake:u.take (j+1)=u0.take (j+1)) (hz:val (u.drop (j+s.length))=0)
  (hinv:val (q.drop (j+1)) * V+val (u.drop (j+1))=val (u0.drop (j+1))) (hsv:d * V+val s=val (u.drop j)) :
  val ((q.set j d).drop j) * V+val ((u.take j ++ (s ++ u.drop (j+s.length))).drop j)=val (u0.drop j)∧val ((u.take j ++ (s ++ u.drop (j+s.length))).drop j)=val s∧(u.take j ++ (s ++ u.drop (j+s.length))).take j=u0.take j:=by
 have e1:(u.take j ++ (s ++ u.drop (j+s.length))).drop j=s ++ u.drop (j+s.length):=List.drop_left' (by rw [List.length_take]; omega);have e2:(u.take j ++ (s ++ u.drop (j+s.length))).take j=u.take j:=List.take_left' (by rw [List.length_take]; omega);have e3:val (s ++ u.drop (j+s.length))=val s:=by rw [val_append,hz]; simp
 have h1:u[j]?.getD 0=u0[j]?.getD 0:=by
  have:=congrArg (fun l:List Nat=>l[j]?.getD 0) htake;simpa [List.getElem?_take_of_lt] using this
 have h2:u.take j=u0.take j:=by
  have:=congrArg (List.take j) htake;simpa [List.take_take] using this
 rw [e1,e2,e3,val_drop_set hq,val_drop (l:=u0) (by omega),← hinv,← h1];rw [val_drop hj] at hsv;refine ⟨?_,rfl,h2⟩;rw [Nat.add_mul,Nat.mul_add 4294967296,Nat.mul_assoc];omega
theorem div_done {a b q r P:Nat} (hP:0 < P) (hb:0 < b) (h:q * (b * P)+r=a * P) (hr:r < b * P):q=a / b∧r / P=a % b:=by
 have h1:a * P / (b * P)=q:=by
  rw [← h,Nat.add_comm,Nat.mul_comm q,Nat.add_mul_div_left _ _ (Nat.mul_pos hb hP),Nat.div_eq_of_lt hr,Nat.zero_add]
 have h2:a * P % (b * P)=r:=by
  rw [← h,Nat.add_comm,Nat.mul_comm q,Nat.add_mul_mod_self_left,Nat.mod_eq_of_lt hr]
 rw [Nat.mul_div_mul_right _ _ hP] at h1;rw [Nat.mul_mod_mul_right] at h2;exact ⟨h1.symm,by rw [← h2,Nat.mul_div_cancel _ hP]⟩
end Go.Proofs.YtgnjhlnolihgcaaGreat
namespace Go.Proofs.YtgnjhlnolihgcaaGreat
end Go.Proofs.YtgnjhlnolihgcaaGreat
namespace Go.Proofs.YtgnjhlnolihgcaaGreat
end Go.Proofs.YtgnjhlnolihgcaaGreat
namespace Go.Proofs.YtgnjhlnolihgcaaGreat
def dadj (n1:Bool) (a:Nat) (n2:Bool) (b:Nat):Bool:=decide (0 < a % b) && (n1 != n2)
def dqN (n1:Bool) (a:Nat) (n2:Bool) (b:Nat):Nat:=if dadj n1 a n2 b then a / b+1 else a / b
def drN (n1:Bool) (a:Nat) (n2:Bool) (b:Nat):Nat:=if dadj n1 a n2 b then b - a % b else a % b
def dqZ (n1:Bool) (a:Nat) (n2:Bool) (b:Nat):Int:=if n1 != n2 then -(dqN n1 a n2 b:Int) else (dqN n1 a n2 b:Int)
def drZ (n1:Bool) (a:Nat) (n2:Bool) (b:Nat):Int:=if n2 then -(drN n1 a n2 b:Int) else (drN n1 a n2 b:Int)
theorem dqN_le {n1 n2:Bool} {a b:Nat} (hb:0 < b):dqN n1 a n2 b≤a:=by
 unfold dqN;split
 ·rename_i h
  unfold dadj at h;rw [Bool.and_eq_true,decide_eq_true_eq] at h;have h1:a % b < b:=Nat.mod_lt _ hb;have h2:=Nat.div_add_mod a b;have h3:2 * (a / b)≤b * (a / b):=Nat.mul_le_mul_right _ (by omega);omega
 ·exact Nat.div_le_self _ _
theorem drN_le {n1 n2:Bool} {a b:Nat} (hb:0 < b):drN n1 a n2 b≤b:=by
 unfold drN;have h1:a % b < b:=Nat.mod_lt _ hb;split <;> omega
theorem fit_le {n:Nat} {l:List Nat} (hk:Canon l) (hl:l.length≤4096) (h:n≤val l):(limbs n).length≤4096:=by
 have h1:=q1b (q0r n) hk (by rw [q0j]; exact h);omega
theorem outN_fit {neg:Bool} {n:Nat} (h:(limbs n).length≤4096):outN neg n=(wOf (if neg then -(n:Int) else (n:Int)),0):=by
 rw [outN_zv];refine outZ_fit ?_;have e:(if neg=true then -(n:Int) else (n:Int)).natAbs=n:=(by split <;> simp);rw [e]; exact h
theorem dmq {n1 n2:Bool} {l1 l2:List Nat} (k1:Canon l1) (hl:l1.length≤4096) (hb:0 < val l2):outN (n1 != n2) (dqN n1 (val l1) n2 (val l2))=(wOf (dqZ n1 (val l1) n2 (val l2)),0):=
 outN_fit (fit_le k1 hl (dqN_le hb))
theorem dmr {n1 n2:Bool} {l1 l2:List Nat} (k2:Canon l2) (hl:l2.length≤4096) (hb:0 < val l2):outN n2 (drN n1 (val l1) n2 (val l2))=(wOf (drZ n1 (val l1) n2 (val l2)),0):=
 outN_fit (fit_le k2 hl (drN_le hb))
theorem dm_same_q {n1 n2:Bool} {a b:Nat} (h:dadj n1 a n2 b=false):(if n1 != n2 then -((a / b:Nat):Int) else ((a / b:Nat):Int))=dqZ n1 a n2 b:=by
 unfold dqZ dqN; rw [h]; rfl
theorem dm_same_r {n1 n2:Bool} {a b:Nat} (h:dadj n1 a n2 b=false):(if n1 then -((a % b:Nat):Int) else ((a % b:Nat):Int))=drZ n1 a n2 b:=by
 unfold drZ drN; rw [h];unfold dadj at h;generalize a % b=y at *;cases n1 <;> cases n2 <;> simp at h ⊢ <;> omega
theorem dm_adj_q {n1 n2:Bool} {a b:Nat} (h:dadj n1 a n2 b=true):(if n1 != n2 then -((a / b:Nat):Int) else ((a / b:Nat):Int)) + -1=dqZ n1 a n2 b:=by
 unfold dqZ dqN; rw [h];unfold dadj at h;generalize a / b=x at *;generalize a % b=y at *;cases n1 <;> cases n2 <;> simp at h ⊢ <;> omega
theorem dm_adj_r {n1 n2:Bool} {l2:List Nat} {a:Nat} (hb:0 < val l2) (h:dadj n1 a n2 (val l2)=true):(if n1 then -((a % val l2:Nat):Int) else ((a % val l2:Nat):Int))+zv n2 l2=drZ n1 a n2 (val l2):=by
 have h1:a % val l2 < val l2:=Nat.mod_lt _ hb;unfold drZ drN zv; rw [h];unfold dadj at h;generalize a % val l2=y at *;generalize val l2=b at *;cases n1 <;> cases n2 <;> simp at h ⊢ <;> omega
def dmS (n1:Bool) (l1:List Nat) (n2:Bool) (l2:List Nat):(Bool × List Nat) × (Bool × List Nat) × Int:=
 if badL n1 l1 || badL n2 l2 then ((false,[]),(false,[]),8) else if l2.length=0 then ((false,[]),(false,[]),18)
 else (wOf (dqZ n1 (val l1) n2 (val l2)),wOf (drZ n1 (val l1) n2 (val l2)),0)
theorem dm_law {n1 n2:Bool} {l1 l2:List Nat} (hb:0 < val l2):dqZ n1 (val l1) n2 (val l2) * zv n2 l2+drZ n1 (val l1) n2 (val l2)=zv n1 l1∧drN n1 (val l1) n2 (val l2) < val l2:=by
 have h1:val l1 % val l2 < val l2:=Nat.mod_lt _ hb;have h2:=Nat.div_add_mod (val l1) (val l2);constructor
 ·cases h:dadj n1 (val l1) n2 (val l2)
  ·rw [← dm_same_q h,← dm_same_r h];unfold zv;generalize val l1 / val l2=x at *;generalize val l1 % val l2=y at *;generalize val l2=b at *;rw [← h2];cases n1 <;> cases n2 <;> simp [Int.mul_comm,Int.mul_neg] <;> omega
  ·rw [← dm_adj_q h,← dm_adj_r hb h];unfold dadj at h;unfold zv;generalize val l1 / val l2=x at *;generalize val l1 % val l2=y at *;generalize val l2=b at *;rw [← h2];cases n1 <;> cases n2 <;> simp [Int.mul_comm,Int.mul_neg,Int.mul_add] at h ⊢ <;> omega
 ·unfold drN;cases h:dadj n1 (val l1) n2 (val l2)
  ·simpa using h1
  ·unfold dadj at h;rw [Bool.and_eq_true,decide_eq_true_eq] at h;simp; omega
end Go.Proofs.YtgnjhlnolihgcaaGreat
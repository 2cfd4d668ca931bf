import Derived.Test.YtcpofeehpijbcaaGreatDoorRpM
namespace Go.Proofs.YtcpofeehpijbcaaGreatDoor
open Go.RowKit Go.Lib Go.Shelf
theorem index_oneC (k:UInt8) (l:List UInt8) (h:k ∉ l):index l [k] = -1:=by
 induction l with
 | nil=>rfl
 | cons c l ih=>
  have h1:c≠k:=fun e=>h (by simp [e]);have h2:=ih (fun m=>h (List.mem_cons_of_mem _ m));rw [index,h2];have:([k]:List UInt8).isPrefixOf (c :: l)=false:=(by simp [List.isPrefixOf]; exact fun e=>h1 e.symm);rw [this];rfl
theorem index_hitC (k:UInt8) (a l:List UInt8) (h:k ∉ a):index (a ++ k :: l) [k]=a.length:=by
 induction a with
 | nil=>rw [List.nil_append,index]; simp [List.isPrefixOf]
 | cons c a ih=>
  have h1:c≠k:=fun e=>h (by simp [e]);have h2:=ih (fun m=>h (List.mem_cons_of_mem _ m));rw [List.cons_append,index,h2];have:([k]:List UInt8).isPrefixOf (c :: (a ++ k :: l))=false:=(by simp [List.isPrefixOf]; exact fun e=>h1 e.symm);rw [this];have h3:((a.length:Int) == -1)=false:=beq_eq_false_iff_ne.2 (by omega);rw [h3];simp
theorem cut_noC (k:UInt8) {t:List UInt8} (h:k ∉ t):cut t [k]=(t,[],false):=by
 unfold cut;rw [index_oneC k t h,if_neg (by decide)]
theorem cut_hitC (k:UInt8) {a:List UInt8} (b:List UInt8) (h:k ∉ a):cut (a ++ k :: b) [k]=(a,b,true):=by
 unfold cut;rw [index_hitC k a b h,if_pos (by omega),Int.toNat_natCast];simp [List.drop_append]
theorem idxA_mem (ch:List UInt8):∀ s:List UInt8,(0≤indexAny s ch) ↔ ∃ b∈s,ch.contains b=true
 | []=>by simp [indexAny]
 | c :: r=>by
  have ih:=idxA_mem ch r;have hg:=indexAny_ge ch r;rw [indexAny];by_cases hc:ch.contains c=true
  ·rw [if_pos hc];exact ⟨fun _=>⟨c,List.mem_cons_self,hc⟩,fun _=>Int.le_refl _⟩
  ·rw [if_neg hc];constructor
   ·intro h;split at h
    ·omega
    ·next hn=>
     obtain ⟨b,hb,hb2⟩:=ih.1 (by simp at hn; omega);exact ⟨b,List.mem_cons_of_mem _ hb,hb2⟩
   ·rintro ⟨b,hb,hb2⟩;rcases List.mem_cons.1 hb with rfl | hb
    ·exact absurd hb2 hc
    ·have:=ih.2 ⟨b,hb,hb2⟩;rw [if_neg (by simp; omega)];omega
theorem conA (s:List UInt8):containsAny s [46,69]=true ↔ (46∈s∨69∈s):=by
 unfold containsAny;rw [decide_eq_true_eq,idxA_mem];constructor
 ·rintro ⟨b,hb,h⟩;simp at h;rcases h with rfl | rfl
  ·exact .inl hb
  ·exact .inr hb
 ·rintro (h | h)
  ·exact ⟨46,h,by simp⟩
  ·exact ⟨69,h,by simp⟩
theorem sgn_split (s:List UInt8):∃ sg,s=sg ++ (sgnS s).2∧(∀ b∈sg,b=43∨b=45)∧∀ f r,(sgnS s).2=f ++ r→sgnS (sg ++ f)=((sgnS s).1,f):=by
 cases s with
 | nil=>exact ⟨[],rfl,(fun b hb=>by cases hb),fun f r h=>by
   have:f=[]:=(List.append_eq_nil_iff.1 h.symm).1;rw [this]; rfl⟩
 | cons c r=>
  have e:∀ q,sgnS (c :: q)=if c=45 then (true,q) else if c=43 then (false,q) else (false,c :: q):=fun _=>rfl;rw [e r];by_cases h1:c=45
  ·rw [if_pos h1];exact ⟨[c],rfl,(fun b hb=>.inr (by rw [List.mem_singleton.1 hb,h1])),fun f q h=>by rw [List.singleton_append,e f,if_pos h1]⟩
  ·rw [if_neg h1];by_cases h2:c=43
   ·rw [if_pos h2];exact ⟨[c],rfl,(fun b hb=>.inl (by rw [List.mem_singleton.1 hb,h2])),fun f q h=>by rw [List.singleton_append,e f,if_neg h1,if_pos h2]⟩
   ·rw [if_neg h2];refine ⟨[],rfl,(fun b hb=>by cases hb),fun f q h=>?_⟩;rw [List.nil_append]
    cases f with
    | nil=>rfl
    | cons x f=>
     rw [List.cons_append] at h;injection h with hx _
     subst hx;rw [e f,if_neg h1,if_neg h2]
def dcmB (m:Bool) (f:List UInt8) (e:Int):Option CD:=
 match cntS ((cut f [46]).1 ++ (cut f [46]).2.1) 1 18 with
 | none=>none
 | some n=>some ⟨[],4,false,if m then -(zerN 20 n (e - (cut f [46]).2.1.length)).1 else (zerN 20 n (e - (cut f [46]).2.1.length)).1,if (zerN 20 n (e - (cut f [46]).2.1.length)).1=0 then 0 else (zerN 20 n (e - (cut f [46]).2.1.length)).2,[],[]⟩
theorem dcm_sg {s:List UInt8} {m:Bool} {f:List UInt8} (h:sgnS s=(m,f)) (e:Int):dcmS s e=dcmB m f e:=by
 unfold dcmS dcmB;rw [h];rfl
theorem dig_ne {b:UInt8} (h:dig b=true):b≠46∧b≠69∧b≠43∧b≠45:=by
 refine ⟨?_,?_,?_,?_⟩ <;> rintro rfl <;> revert h <;> decide
theorem all_no {l:List UInt8} (h:l.all dig=true):46 ∉ l∧69 ∉ l:=
 ⟨fun e=>(dig_ne (List.all_eq_true.1 h _ e)).1 rfl,fun e=>(dig_ne (List.all_eq_true.1 h _ e)).2.1 rfl⟩
theorem splitK (k:UInt8):∀ t:List UInt8,k∈t→∃ x y,t=x ++ k :: y∧k ∉ x
 | c :: r,h=>by
  by_cases hc:c=k
  ·exact ⟨[],r,by rw [hc]; rfl,by simp⟩
  ·obtain ⟨x,y,e,hx⟩:=splitK k r ((List.mem_cons.1 h).resolve_left (fun e=>hc e.symm));exact ⟨c :: x,y,by rw [e]; rfl,by simp only [List.mem_cons,not_or]; exact ⟨fun e=>hc e.symm,hx⟩⟩
theorem cut_app (k:UInt8) {u:List UInt8} (t:List UInt8) (h:k ∉ u):cut (u ++ t) [k]=(u ++ (cut t [k]).1,(cut t [k]).2):=by
 by_cases hk:k∈t
 ·obtain ⟨x,y,rfl,hx⟩:=splitK k t hk;rw [← List.append_assoc,cut_hitC k y (fun e=>(List.mem_append.1 e).elim h hx),cut_hitC k y hx]
 ·rw [cut_noC k (fun e=>(List.mem_append.1 e).elim h hk),cut_noC k hk]
def dv (acc:Nat) (l:List UInt8):Nat:=l.foldl (fun a c=>a * 10+(c.toNat - 48)) acc
theorem dv_cons (acc:Nat) (c:UInt8) (r:List UInt8):dv acc (c :: r)=dv (acc * 10+(c.toNat - 48)) r:=by unfold dv; rw [List.foldl_cons]
theorem dv_ge:∀ (l:List UInt8) (acc:Nat),acc≤dv acc l
 | [],_=>Nat.le_refl _
 | c :: r,acc=>by
  rw [dv_cons];have:=dv_ge r (acc * 10+(c.toNat - 48));omega
theorem dig_iff (c:UInt8):dig c=true ↔ (48≤c.toNat∧c.toNat≤57):=by unfold dig; rw [Bool.and_eq_true,decide_eq_true_eq,decide_eq_true_eq]
theorem dv_int:∀ (l:List UInt8) (acc:Nat),l.all dig=true→((dv acc l:Nat):Int)=l.foldl digN (acc:Int)
 | [],_,_=>rfl
 | c :: r,acc,h=>by
  rw [List.all_cons,Bool.and_eq_true] at h;have hc:=(dig_iff c).1 h.1;rw [dv_cons,dv_int r _ h.2,List.foldl_cons];congr 1
  unfold digN;omega
def okv {α:Type} : NumEnd α→Option α
 | .ok v=>some v
 | _=>none
theorem pum:∀ (l:List UInt8) (acc:Nat),acc≤18446744073709551615→okv (parseUintM 18446744073709551615 acc l)=if l.all dig=true∧dv acc l≤18446744073709551615 then some (dv acc l) else none
 | [],acc,ha=>by
  rw [parseUintM,if_pos ⟨rfl,ha⟩]; rfl
 | c :: r,acc,ha=>by
  rw [parseUintM];by_cases hd:dig c=true
  ·rw [if_pos ((dig_iff c).1 hd),List.all_cons,hd,Bool.true_and,dv_cons];have hg:=dv_ge r (acc * 10+(c.toNat - 48));split
   ·rw [if_neg (by omega)]; rfl
   ·split
    ·rw [if_neg (by omega)]; rfl
    ·rw [pum r _ (by omega)]
  ·rw [if_neg (fun e=>hd ((dig_iff c).2 e)),if_neg (by rw [List.all_cons]; simp [hd])]; rfl
theorem okv_pu (l:List UInt8):okv (parseUintB 64 l)=if l≠[]∧l.all dig=true∧dv 0 l≤18446744073709551615 then some (dv 0 l) else none:=by
 unfold parseUintB;by_cases h:l=[]
 ·rw [if_pos h,if_neg (fun e=>e.1 h)]; rfl
 ·rw [if_neg h,pum l 0 (by decide)];simp [h]
theorem okv_pi (s:List UInt8):okv (parseIntB 64 s)=match okv (parseUintB 64 (sgnS s).2) with
  | none=>none
  | some u=>if ((sgnS s).1=false∧9223372036854775808≤u)∨((sgnS s).1=true∧9223372036854775808 < u) then none else some (if (sgnS s).1 then -(u:Int) else u):=by
 cases s with
 | nil=>rfl
 | cons c r=>
  have e:sgnS (c :: r)=if c=45 then (true,r) else if c=43 then (false,r) else (false,c :: r):=rfl;have n45:(c.toNat=45) ↔ c=45:=(by rw [← UInt8.toNat_inj]; rfl);have n43:(c.toNat=43) ↔ c=43:=by rw [← UInt8.toNat_inj]; rfl
  have hx:(if c.toNat=43∨c.toNat=45 then r else c :: r)=(sgnS (c :: r)).2:=by
   rw [e];by_cases h1:c=45
   ·rw [if_pos h1,if_pos (.inr (n45.2 h1))]
   ·rw [if_neg h1];by_cases h2:c=43
    ·rw [if_pos h2,if_pos (.inl (n43.2 h2))]
    ·rw [if_neg h2,if_neg (by rw [n43,n45]; simp [h1,h2])]
  have hm:((sgnS (c :: r)).1=true) ↔ c.toNat=45:=by
   rw [e,n45];by_cases h1:c=45
   ·rw [if_pos h1]; simp [h1]
   ·rw [if_neg h1]; split <;> simp [h1]
  rw [parseIntB,hx];generalize (sgnS (c :: r)).1=m at *;generalize parseUintB 64 (sgnS (c :: r)).2=z
  cases z with
  | ok u=>
   simp only [okv];cases m
   ·have h45:¬ c.toNat=45:=fun h=>by simpa using hm.2 h
    simp only [h45,not_false_eq_true,true_and,false_and,if_false,or_false,Bool.false_eq_true];by_cases hu:9223372036854775808≤u
    ·rw [if_pos hu,if_pos (show 2 ^ (64 - 1)≤u from hu)]
    ·rw [if_neg hu,if_neg (show ¬ 2 ^ (64 - 1)≤u from hu)]
   ·have h45:c.toNat=45:=hm.1 rfl;simp only [h45,not_true_eq_false,false_and,true_and,if_false,if_true,false_or,Bool.true_eq_false];by_cases hu:9223372036854775808 < u
    ·rw [if_pos hu,if_pos (show 2 ^ (64 - 1) < u from hu)]
    ·rw [if_neg hu,if_neg (show ¬ 2 ^ (64 - 1) < u from hu)]
  | _=>rfl
def dotR (a s:List UInt8):List UInt8 × Int × Bool × List UInt8:=if hasPrefix s [46] then (a ++ (s.drop 1).takeWhile dig,-(((s.drop 1).takeWhile dig).length:Int),true,(s.drop 1).dropWhile dig) else (a,0,false,s)
def expR (x:Int) (d:Bool) (s:List UInt8):Option (Int × Bool × List UInt8):=
 if hasPrefix s [69] then
  (if 1≤((sgnS (s.drop 1)).2.takeWhile dig).length∧((sgnS (s.drop 1)).2.takeWhile dig).length≤2 then some (x+(if (sgnS (s.drop 1)).1 then -(((sgnS (s.drop 1)).2.takeWhile dig).foldl digN 0) else ((sgnS (s.drop 1)).2.takeWhile dig).foldl digN 0),true,(sgnS (s.drop 1)).2.dropWhile dig) else none)
 else some (x,d,s)
def finR (m:Bool) (a:List UInt8) (x:Int) (d:Bool):Option CD:=
 if 18446744073709551615 < dv 0 a then none
 else if d then some ⟨[],4,false,if m then -(zerN 20 (dv 0 a) x).1 else (zerN 20 (dv 0 a) x).1,if (zerN 20 (dv 0 a) x).1=0 then 0 else (zerN 20 (dv 0 a) x).2,[],[]⟩
 else if 9223372036854775808 < dv 0 a∨(dv 0 a=9223372036854775808∧m=false) then none else some ⟨[],3,false,if m then -((dv 0 a:Nat):Int) else (dv 0 a:Nat),0,[],[]⟩
def endR (m:Bool) (a:List UInt8):Option (Int × Bool × List UInt8)→Option CD
 | none=>none
 | some p=>if p.2.2≠[]∨(p.2.1=true∧18 < a.length) then none else finR m a p.1 p.2.1
def bodR (m:Bool) (q:List UInt8 × Int × Bool × List UInt8):Option CD:=if 1≤q.1.length∧q.1.length≤20 then endR m q.1 (expR q.2.1 q.2.2.1 q.2.2.2) else none
def nmbR (s:List UInt8):Option CD:=bodR (sgnS s).1 (dotR ((sgnS s).2.takeWhile dig) ((sgnS s).2.dropWhile dig))
theorem dv_lt:∀ (l:List UInt8) (acc:Nat),l.all dig=true→dv acc l < (acc+1) * 10 ^ l.length
 | [],acc,_=>by show acc < (acc+1) * 1; omega
 | c :: r,acc,h=>by
  rw [List.all_cons,Bool.and_eq_true] at h;have hc:=(dig_iff c).1 h.1;have ih:=dv_lt r (acc * 10+(c.toNat - 48)) h.2;rw [dv_cons,List.length_cons,Nat.pow_succ];refine Nat.lt_of_lt_of_le ih ?_;rw [Nat.mul_comm (10 ^ r.length) 10,← Nat.mul_assoc];exact Nat.mul_le_mul_right _ (by omega)
theorem dv_18 {l:List UInt8} (h:l.all dig=true) (hl:l.length≤18):dv 0 l < 1000000000000000000:=by
 have:=dv_lt l 0 h;have h2:10 ^ l.length≤10 ^ 18:=Nat.pow_le_pow_right (by decide) hl;omega
theorem cnt_good {l:List UInt8} (h:l.all dig=true) (lo hi:Nat):cntS l lo hi=if lo≤l.length∧l.length≤hi then some ((dv 0 l:Nat):Int) else none:=by
 unfold cntS;rw [h,dv_int l 0 h];by_cases h1:lo≤l.length <;> by_cases h2:l.length≤hi <;> simp [h1,h2]
theorem cnt_badd {l:List UInt8} (h:¬ l.all dig=true) (lo hi:Nat):cntS l lo hi=none:=by
 unfold cntS;rw [if_neg (by simp only [Bool.and_eq_true]; exact fun e=>h e.2)]
theorem tw_all {p:UInt8→Bool} : ∀ {l:List UInt8},l.all p=true→l.takeWhile p=l∧l.dropWhile p=[]
 | [],_=>⟨rfl,rfl⟩
 | c :: r,h=>by
  rw [List.all_cons,Bool.and_eq_true] at h;have ih:=tw_all h.2;rw [List.takeWhile_cons,List.dropWhile_cons,h.1];exact ⟨by rw [if_pos rfl,ih.1],by rw [if_pos rfl,ih.2]⟩
theorem dw_all {p:UInt8→Bool} : ∀ {l:List UInt8},l.dropWhile p=[]→l.all p=true
 | [],_=>rfl
 | c :: r,h=>by
  rw [List.dropWhile_cons] at h;split at h
  ·next hc=>rw [List.all_cons,hc,dw_all h]; rfl
  ·cases h
theorem dcm_good {m:Bool} {a:List UInt8} {x:Int} (h:a.all dig=true) (f:List UInt8) (e:Int) (hf:(cut f [46]).1 ++ (cut f [46]).2.1=a) (hx:e - (cut f [46]).2.1.length=x):dcmB m f e=if 1≤a.length∧a.length≤20 then endR m a (some (x,true,[])) else none:=by
 unfold dcmB;rw [hf,hx,cnt_good h];by_cases h1:1≤a.length
 ·by_cases h2:a.length≤18
  ·have:=dv_18 h h2;rw [if_pos ⟨h1,h2⟩,if_pos ⟨h1,by omega⟩,endR,if_neg (by simp; omega),finR,if_neg (by omega),if_pos rfl]
  ·rw [if_neg (fun e=>h2 e.2)];by_cases h3:a.length≤20
   ·rw [if_pos ⟨h1,h3⟩,endR,if_pos (.inr ⟨rfl,by omega⟩)]
   ·rw [if_neg (fun e=>h3 e.2)]
 ·rw [if_neg (fun e=>h1 e.1),if_neg (fun e=>h1 e.1)]
theorem dcm_bad {m:Bool} {f:List UInt8} {e:Int} (h:¬ ((cut f [46]).1 ++ (cut f [46]).2.1).all dig=true):dcmB m f e=none:=by
 unfold dcmB;rw [cnt_badd h]
theorem exp_eq (x:Int) (d:Bool) (t:List UInt8):(match expR x d (69 :: t) with | none=>none | some p=>if p.2.2=[] then some p.1 else none)=(expS t).map (x + ·)∧∀ p,expR x d (69 :: t)=some p→p.2.1=true:=by
 have hp:hasPrefix (69 :: t) [69]=true:=by rw [pre_take]; rfl
 have e:expR x d (69 :: t)=if 1≤((sgnS t).2.takeWhile dig).length∧((sgnS t).2.takeWhile dig).length≤2 then some (x+(if (sgnS t).1 then -(((sgnS t).2.takeWhile dig).foldl digN 0) else ((sgnS t).2.takeWhile dig).foldl digN 0),true,(sgnS t).2.dropWhile dig) else none:=by
  unfold expR;rw [if_pos hp];rfl
 rw [e];unfold expS;generalize (sgnS t).1=m;generalize (sgnS t).2=u;constructor
 ·by_cases hu:u.all dig=true
  ·obtain ⟨h1,h2⟩:=tw_all hu;rw [h1,h2,cnt_good hu,dv_int u 0 hu];by_cases h3:1≤u.length∧u.length≤2
   ·rw [if_pos h3,if_pos h3]; rfl
   ·rw [if_neg h3,if_neg h3]; rfl
  ·have h2:¬ u.dropWhile dig=[]:=fun e=>hu (dw_all e);rw [cnt_badd hu];split
   ·next h=>
    split at h
    ·cases h
    ·rfl
   ·next p h=>
    split at h
    ·injection h with h
     subst h;rw [if_neg h2]; rfl
    ·cases h
 ·intro p h;split at h
  ·injection h with h
   subst h;rfl
  ·cases h
theorem dw_head {p:UInt8→Bool} : ∀ {l:List UInt8} {c:UInt8} {t:List UInt8},l.dropWhile p=c :: t→p c=false
 | [],_,_,h=>by cases h
 | x :: r,c,t,h=>by
  rw [List.dropWhile_cons] at h;split at h
  ·exact dw_head h
  ·next hx=>
   injection h with h1 _
   rw [← h1];simpa using hx
theorem tw_allp {p:UInt8→Bool} : ∀ (l:List UInt8),(l.takeWhile p).all p=true
 | []=>rfl
 | x :: r=>by
  rw [List.takeWhile_cons];split
  ·next hx=>rw [List.all_cons,hx,tw_allp r]; rfl
  ·rfl
theorem whole_okv (s:List UInt8):wholeS s=if (trimLeftS s [43,45]).length≤20 then (okv (parseIntB 64 s)).map (fun v=>(⟨[],3,false,v,0,[],[]⟩:CD)) else none:=by
 unfold wholeS;cases parseIntB 64 s <;> rfl
theorem pre_nil (k:UInt8):hasPrefix [] [k]=false:=rfl
theorem pre_ne {c k:UInt8} (t:List UInt8) (h:c≠k):hasPrefix (c :: t) [k]=false:=by
 rw [pre_take,beq_eq_false_iff_ne];intro e;exact h (by simpa using e)
theorem pre_eq (k:UInt8) (t:List UInt8):hasPrefix (k :: t) [k]=true:=by rw [pre_take,beq_iff_eq]; rfl
theorem whole_all {s sg a:List UInt8} {m:Bool} (hs:s=sg ++ a) (hsg:∀ b∈sg,b=43∨b=45) (hm:sgnS s=(m,a)) (ha:a.all dig=true):wholeS s=if 1≤a.length∧a.length≤20 then finR m a 0 false else none:=by
 have ht:trimLeftS s [43,45]=a:=by
  unfold trimLeftS;rw [hs,List.dropWhile_append_of_pos (fun b hb=>by rcases hsg b hb with rfl | rfl <;> decide)]
  cases a with
  | nil=>rfl
  | cons c r=>
   rw [List.all_cons,Bool.and_eq_true] at ha;have:=dig_ne ha.1;rw [List.dropWhile_cons,if_neg (by simp; exact ⟨this.2.2.1,this.2.2.2⟩)]
 rw [whole_okv,ht,okv_pi,hm,okv_pu];dsimp only;unfold finR;by_cases h0:a=[]
 ·subst h0;rw [if_neg (by simp:¬ (1≤([]:List UInt8).length∧_))];simp
 ·have hp:1≤a.length:=List.length_pos_iff.2 h0;by_cases h20:a.length≤20
  ·by_cases h64:dv 0 a≤18446744073709551615
   ·rw [if_pos h20,if_pos ⟨h0,ha,h64⟩,if_pos ⟨hp,h20⟩,if_neg (by omega),if_neg (by simp)];dsimp only
    cases m with
    | false=>
     by_cases hb:9223372036854775808≤dv 0 a
     ·rw [if_pos (.inl ⟨rfl,hb⟩),if_pos (by by_cases h3:dv 0 a=9223372036854775808; exact .inr ⟨h3,rfl⟩; exact .inl (by omega))]; rfl
     ·rw [if_neg (by rintro (⟨-,h⟩ | ⟨h,-⟩); exact hb h; cases h),if_neg (show ¬ (9223372036854775808 < dv 0 a∨(dv 0 a=9223372036854775808∧false=false)) by rintro (h | ⟨h,-⟩) <;> omega)]; rfl
    | true=>
     by_cases hb:9223372036854775808 < dv 0 a
     ·rw [if_pos (.inr ⟨rfl,hb⟩),if_pos (.inl hb)]; rfl
     ·rw [if_neg (by rintro (⟨h,-⟩ | ⟨-,h⟩); cases h; exact hb h),if_neg (show ¬ (9223372036854775808 < dv 0 a∨(dv 0 a=9223372036854775808∧true=false)) by rintro (h | ⟨-,h⟩); exact hb h; cases h)]; rfl
   ·rw [if_pos h20,if_neg (fun e=>h64 e.2.2),if_pos ⟨hp,h20⟩,if_pos (by omega)]; rfl
  ·rw [if_neg h20,if_neg (fun e=>h20 e.2)]
theorem whole_bad {s:List UInt8} (h:¬ (sgnS s).2.all dig=true):wholeS s=none:=by
 rw [whole_okv,okv_pi,okv_pu,if_neg (show ¬ ((sgnS s).2≠[]∧(sgnS s).2.all dig=true∧dv 0 (sgnS s).2≤18446744073709551615) from fun e=>h e.2.1)];split <;> rfl
theorem endR_no {m:Bool} {a:List UInt8} {p:Int × Bool × List UInt8} (h:p.2.2≠[]):endR m a (some p)=none:=by rw [endR,if_pos (.inl h)]
theorem bodR_no {m:Bool} {q:List UInt8 × Int × Bool × List UInt8} (h:endR m q.1 (expR q.2.1 q.2.2.1 q.2.2.2)=none):bodR m q=none:=by
 unfold bodR;rw [h];split <;> rfl
theorem bod_exp {m:Bool} {a:List UInt8} (ha:a.all dig=true) (x:Int) (d:Bool) (t f:List UInt8) (hf:(cut f [46]).1 ++ (cut f [46]).2.1=a) (hx : -((cut f [46]).2.1.length:Int)=x) :
  bodR m (a,x,d,69 :: t)=match expS t with | none=>none | some e=>dcmB m f e:=by
 obtain ⟨h1,h2⟩:=exp_eq x d t;unfold bodR;dsimp only
 cases hp:expR x d (69 :: t) with
 | none=>
  rw [hp] at h1
  have:expS t=none:=by
   dsimp only at h1
   cases h:expS t with
   | none=>rfl
   | some e=>rw [h] at h1; cases h1
  rw [this];split <;> rfl
 | some p=>
  rw [hp] at h1;dsimp only at h1;have hd:=h2 p hp;by_cases he:p.2.2=[]
  ·rw [if_pos he] at h1
   cases h:expS t with
   | none=>rw [h] at h1; cases h1
   | some e=>
    rw [h] at h1;simp only [Option.map_some,Option.some.injEq] at h1;dsimp only;rw [dcm_good ha f e hf (show e - _=p.1 by rw [h1]; omega)];obtain ⟨p1,p2,p3⟩:=p;dsimp only at he hd;rw [he,hd]
  ·rw [if_neg he] at h1
   have:expS t=none:=by
    cases h:expS t with
    | none=>rfl
    | some e=>rw [h] at h1; cases h1
   rw [this,endR_no he];split <;> rfl
theorem cut_pre (k:UInt8) (t:List UInt8):∃ q,t=(cut t [k]).1 ++ q:=by
 by_cases hk:k∈t
 ·obtain ⟨x,y,rfl,hx⟩:=splitK k t hk;exact ⟨k :: y,by rw [cut_hitC k y hx]⟩
 ·exact ⟨[],by rw [cut_noC k hk]; simp⟩
theorem nmbR_eq (s:List UInt8):nmbR s=nmbS s:=by
 obtain ⟨sg,hs,hsg,hpre⟩:=sgn_split s;have h46:46 ∉ sg:=fun e=>by rcases hsg _ e with h | h <;> exact absurd h (by decide)
 have h69:69 ∉ sg:=fun e=>by rcases hsg _ e with h | h <;> exact absurd h (by decide)
 obtain ⟨m,hm⟩:∃ m,(sgnS s).1=m:=⟨_,rfl⟩;obtain ⟨s1,hs1⟩:∃ x,(sgnS s).2=x:=⟨_,rfl⟩;have hsx:sgnS s=(m,s1):=(by rw [← hm,← hs1]);unfold nmbR;rw [hm,hs1];rw [hs1] at hs hpre;rw [hm] at hpre;have ha:=tw_allp (p:=dig) s1;have hsp:s1.takeWhile dig ++ s1.dropWhile dig=s1:=List.takeWhile_append_dropWhile;generalize s1.takeWhile dig=a at *;have hdw:∀ c t,s1.dropWhile dig=c :: t→dig c=false:=fun c t h=>dw_head h;generalize s1.dropWhile dig=r at *;have hno:=all_no ha;have hcut:cut s [69]=(sg ++ (cut s1 [69]).1,(cut s1 [69]).2):=(by rw [hs]; exact cut_app 69 s1 h69);have hexp:expO s=expO s1:=(by unfold expO; rw [hcut]);have hdcm:∀ f q e,s1=f ++ q→dcmS (sg ++ f) e=dcmB m f e:=fun f q e h=>dcm_sg (hpre f q h) e;unfold nmbS
 cases r with
 | nil=>
  rw [List.append_nil] at hsp
  have hc:¬ containsAny s [46,69]=true:=by
   rw [conA,hs,← hsp];rintro (h | h) <;> rcases List.mem_append.1 h with h | h
   ·exact h46 h
   ·exact hno.1 h
   ·exact h69 h
   ·exact hno.2 h
  rw [if_neg hc,whole_all hs hsg hsx (by rw [← hsp]; exact ha),← hsp];unfold bodR dotR;rw [pre_nil];simp only [Bool.false_eq_true,if_false];unfold expR;rw [pre_nil];simp only [Bool.false_eq_true,if_false];rw [endR];simp
 | cons c t=>
  have hc:=hdw c t rfl;by_cases c46:c=46
  ·subst c46;have hca:containsAny s [46,69]=true:=(conA s).2 (.inl (by rw [hs,← hsp]; simp));rw [if_pos hca,hexp];have hb:=tw_allp (p:=dig) t;have hsb:t.takeWhile dig ++ t.dropWhile dig=t:=List.takeWhile_append_dropWhile;have hd:dotR a (46 :: t)=(a ++ t.takeWhile dig,-((t.takeWhile dig).length:Int),true,t.dropWhile dig):=(by unfold dotR; rw [pre_eq,if_pos rfl]; rfl);rw [hd];generalize t.takeWhile dig=b at *;have hdw2:∀ c u,t.dropWhile dig=c :: u→dig c=false:=fun c u h=>dw_head h;generalize t.dropWhile dig=r2 at *;have hnb:=all_no hb;have hab:(a ++ b).all dig=true:=by rw [List.all_append,ha,hb]; rfl
   have h69ab:69 ∉ a ++ 46 :: b:=fun e=>by
    rcases List.mem_append.1 e with h | h
    ·exact hno.2 h
    ·rcases List.mem_cons.1 h with h | h
     ·exact absurd h (by decide)
     ·exact hnb.2 h
   have h46cut:∀ q,cut (a ++ 46 :: q) [46]=(a,q,true):=fun q=>cut_hitC 46 q hno.1
   cases r2 with
   | nil=>
    rw [List.append_nil] at hsb;subst hsb;have hce:cut s1 [69]=(s1,[],false):=cut_noC 69 (by rw [← hsp]; exact h69ab);have he:expO s1=some 0:=(by unfold expO; rw [hce]; rfl);rw [he,hcut,hce];dsimp only;rw [hdcm s1 [] 0 (by simp),← hsp,dcm_good hab (a ++ 46 :: b) 0 (by rw [h46cut]) (show (0:Int) - _ = -(b.length:Int) by rw [h46cut]; simp)];unfold bodR expR;rw [pre_nil];simp
   | cons c2 u=>
    have hc2:=hdw2 c2 u rfl;by_cases e69:c2=69
    ·subst e69;have hs2:s1=(a ++ 46 :: b) ++ 69 :: u:=(by rw [← hsp,← hsb]; simp);have hce:cut s1 [69]=(a ++ 46 :: b,u,true):=(by rw [hs2]; exact cut_hitC 69 u h69ab);have he:expO s1=expS u:=(by unfold expO; rw [hce]; rfl);rw [he,hcut,hce,bod_exp hab _ _ u (a ++ 46 :: b) (by rw [h46cut]) (by rw [h46cut])];dsimp only
     cases expS u with
     | none=>rfl
     | some e=>exact (hdcm _ _ e hs2).symm
    ·rw [bodR_no (by unfold expR; rw [pre_ne u e69]; exact endR_no (by simp))]
     cases hx:expO s1 with
     | none=>rfl
     | some e=>
      have hs2:s1=(a ++ 46 :: (b ++ [c2])) ++ u:=by rw [← hsp,← hsb]; simp
      have hn:69 ∉ a ++ 46 :: (b ++ [c2]):=fun e=>by
       rw [← List.cons_append,← List.append_assoc] at e;rcases List.mem_append.1 e with h | h
       ·exact h69ab h
       ·exact e69 (List.mem_singleton.1 h).symm
      have hce:(cut s1 [69]).1=(a ++ 46 :: (b ++ [c2])) ++ (cut u [69]).1:=(by rw [hs2,cut_app 69 u hn]);rw [hcut];dsimp only;obtain ⟨q,hq⟩:=cut_pre 69 s1;rw [hdcm _ q e hq,dcm_bad];rw [hce,show (a ++ 46 :: (b ++ [c2])) ++ (cut u [69]).1=a ++ 46 :: ((b ++ [c2]) ++ (cut u [69]).1) by simp,h46cut];simp [hc2]
  ·by_cases c69:c=69
   ·subst c69;have hca:containsAny s [46,69]=true:=(conA s).2 (.inr (by rw [hs,← hsp]; simp));have hce:cut s1 [69]=(a,t,true):=(by rw [← hsp]; exact cut_hitC 69 t hno.2);have he:expO s1=expS t:=(by unfold expO; rw [hce]; rfl);have hca2:cut a [46]=(a,[],false):=cut_noC 46 hno.1;have hd:dotR a (69 :: t)=(a,0,false,69 :: t):=(by unfold dotR; rw [pre_ne t (by decide)]; rfl);rw [if_pos hca,hexp,he,hcut,hce,hd,bod_exp ha 0 false t a (by rw [hca2]; simp) (by rw [hca2]; rfl)];dsimp only
    cases expS t with
    | none=>rfl
    | some e=>exact (hdcm _ _ e hsp.symm).symm
   ·have hd:dotR a (c :: t)=(a,0,false,c :: t):=(by unfold dotR; rw [pre_ne t c46]; rfl);rw [hd,bodR_no (by unfold expR; rw [pre_ne t c69]; exact endR_no (by simp))];by_cases hca:containsAny s [46,69]=true
    ·rw [if_pos hca,hexp]
     cases hx:expO s1 with
     | none=>rfl
     | some e=>
      have hs2:s1=(a ++ [c]) ++ t:=by rw [← hsp]; simp
      have hn:∀ k:UInt8,k ∉ a→c≠k→k ∉ a ++ [c]:=fun k h1 h2 e=>by
       rcases List.mem_append.1 e with h | h
       ·exact h1 h
       ·exact h2 (List.mem_singleton.1 h).symm
      have hce:(cut s1 [69]).1=(a ++ [c]) ++ (cut t [69]).1:=(by rw [hs2,cut_app 69 t (hn 69 hno.2 c69)]);rw [hcut];dsimp only;obtain ⟨q,hq⟩:=cut_pre 69 s1;rw [hdcm _ q e hq,dcm_bad];rw [hce,cut_app 46 _ (hn 46 hno.1 c46)];simp [hc]
    ·rw [if_neg hca,whole_bad];rw [hs1,← hsp];simp [hc]
end Go.Proofs.YtcpofeehpijbcaaGreatDoor
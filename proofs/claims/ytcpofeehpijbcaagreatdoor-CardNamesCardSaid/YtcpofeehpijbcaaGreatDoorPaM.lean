import Derived.Test.YtcpofeehpijbcaaGreatDoorMg1
import Derived.Lib.IndexMore
import Derived.Lib.IndexAny
import Derived.Lib.SlTrimSet
import Derived.Lib.ParseIntB
namespace Go.Proofs.YtcpofeehpijbcaaGreatDoor
open Go.Lib
theorem drop_while_len (p:UInt8→Bool) (l:List UInt8):(l.dropWhile p).length≤l.length:=by
 induction l with
 | nil=>simp
 | cons a l ih=>
  rw [List.dropWhile_cons];split
  ·exact Nat.le_succ_of_le ih
  ·exact Nat.le_refl _
theorem trimL_len (l:List UInt8) (c:UInt8):(trimLeftB l c).length≤l.length:=drop_while_len _ _
theorem trimR_len (l:List UInt8) (c:UInt8):(trimRightB l c).length≤l.length:=by
 unfold trimRightB;have:=drop_while_len (· == c) l.reverse;rw [List.length_reverse] at this ⊢;exact this
theorem trimB_len (l:List UInt8) (c:UInt8):(trimB l c).length≤l.length:=Nat.le_trans (trimL_len _ _) (trimR_len _ _)
theorem trimP_len (l p:List UInt8):(trimPrefix l p).length≤l.length:=by
 unfold trimPrefix;split
 ·rw [List.length_drop]; omega
 ·exact Nat.le_refl _
theorem cut_len {s sep:List UInt8} (h:(cut s sep).2.2=true):(cut s sep).1.length+(cut s sep).2.1.length+sep.length=s.length:=by
 unfold cut at h ⊢;split at h
 ·next h0=>
  rw [if_pos h0];have h1:=index_room s sep h0;have h2:(index s sep).toNat+sep.length≤s.length:=(by omega);rw [List.length_take,List.length_drop];omega
 ·cases h
theorem cut_le (s sep:List UInt8):(cut s sep).1.length+(cut s sep).2.1.length≤s.length:=by
 cases h:(cut s sep).2.2 with
 | true=>have:=cut_len h; omega
 | false=>
  unfold cut at h ⊢;split at h
  ·cases h
  ·next h0=>rw [if_neg h0]; simp
def qutN:Nat→List UInt8→List UInt8→Option (List UInt8 × List UInt8)
 | 0,_,_=>none
 | f+1,acc,s=>
  if (cut s [39]).2.2 then
   if hasPrefix (cut s [39]).2.1 [39] then qutN f (acc ++ (cut s [39]).1 ++ [39]) ((cut s [39]).2.1.drop 1) else some (acc ++ (cut s [39]).1,(cut s [39]).2.1)
  else none
def quoS (s:List UInt8):Option (List UInt8 × List UInt8):=qutN s.length [] (s.drop 1)
theorem qutN_len:∀ (f:Nat) (acc s:List UInt8) {r:List UInt8 × List UInt8},qutN f acc s=some r→r.1.length+r.2.length≤acc.length+s.length
 | 0,_,_,_,h=>by cases h
 | f+1,acc,s,r,h=>by
  rw [qutN] at h;split at h
  ·next h1=>
   have hl:=cut_len h1;split at h
   ·have:=qutN_len f _ _ h;simp only [List.length_append,List.length_drop,List.length_cons,List.length_nil] at this hl;omega
   ·injection h with h
    subst h;simp only [List.length_append,List.length_cons,List.length_nil] at hl ⊢;omega
  ·cases h
theorem quoS_len {s:List UInt8} {r:List UInt8 × List UInt8} (h:quoS s=some r):r.1.length+r.2.length≤s.length:=by
 have:=qutN_len _ _ _ h;simp at this;omega
def cd0 (kd:Nat):CD:=⟨[],kd,false,0,0,[],[]⟩
def wholeS (s:List UInt8):Option CD:=
 if (trimLeftS s [43,45]).length≤20 then (match parseIntB 64 s with | .ok v=>some ⟨[],3,false,v,0,[],[]⟩ | _=>none) else none
def dig (c:UInt8):Bool:=decide (48≤c.toNat) && decide (c.toNat≤57)
def digN (n:Int) (c:UInt8):Int:=10 * n+((c.toNat:Int) - 48)
def cntS (s:List UInt8) (lo hi:Nat):Option Int:=if decide (lo≤s.length) && decide (s.length≤hi) && s.all dig then some (s.foldl digN 0) else none
def sgnS:List UInt8→Bool × List UInt8
 | []=>(false,[])
 | c :: r=>if c=45 then (true,r) else if c=43 then (false,r) else (false,c :: r)
theorem sgnS_len (s:List UInt8):(sgnS s).2.length≤s.length:=by
 cases s with
 | nil=>simp [sgnS]
 | cons c r=>
  have h:sgnS (c :: r)=if c=45 then (true,r) else if c=43 then (false,r) else (false,c :: r):=rfl;rw [h];split
  ·simp
  ·split <;> simp
def zerN:Nat→Int→Int→Int × Int
 | 0,n,e=>(n,e)
 | f+1,n,e=>if n≠0∧n.tmod 10=0 then zerN f (n.tdiv 10) (e+1) else (n,e)
def expS (s:List UInt8):Option Int:=
 match cntS (sgnS s).2 1 2 with
 | none=>none
 | some x=>some (if (sgnS s).1 then -x else x)
def expO (s:List UInt8):Option Int:=if (cut s [69]).2.2 then expS (cut s [69]).2.1 else some 0
def dcmS (s:List UInt8) (e:Int):Option CD:=
 match cntS ((cut (sgnS s).2 [46]).1 ++ (cut (sgnS s).2 [46]).2.1) 1 18 with
 | none=>none
 | some n=>
  let z:=zerN 20 n (e - (cut (sgnS s).2 [46]).2.1.length)
  some ⟨[],4,false,if (sgnS s).1 then -z.1 else z.1,if z.1=0 then 0 else z.2,[],[]⟩
def nmbS (s:List UInt8):Option CD:=
 if containsAny s [46,69] then (match expO s with | none=>none | some e=>dcmS (cut s [69]).1 e) else wholeS s
def tokS (v:List UInt8):Option CD:=if v=[] then some (cd0 6) else if v=[84]∨v=[70] then some ⟨[],2,v == [84],0,0,[],[]⟩ else nmbS v
def noteS (key:List UInt8) (c:CD) (s:List UInt8):Option CD:=
 if trimLeftB s 32=[]∨(trimLeftB s 32).head? = some 47 then some ⟨key,c.kd,c.y,c.n,c.e,c.t,trimB (trimPrefix (trimLeftB s 32) [47]) 32⟩ else none
def valT (key s:List UInt8):Option (CD × List UInt8):=
 match quoS s with
 | none=>none
 | some r=>(match noteS key ⟨[],5,false,0,0,trimRightB r.1 32,[]⟩ r.2 with | none=>none | some c=>some (c,r.1))
def tokL (s:List UInt8):Nat:=(indexAny (s ++ [32]) [32,47]).toNat
def valO (key s:List UInt8):Option (CD × List UInt8):=
 match tokS (s.take (tokL s)) with
 | none=>none
 | some c=>(match noteS key c (s.drop (tokL s)) with | none=>none | some c=>some (c,[]))
def valS (key s:List UInt8):Option (CD × List UInt8):=if hasPrefix (trimLeftB s 32) [39] then valT key (trimLeftB s 32) else valO key (trimLeftB s 32)
def setT (c:CD) (t:List UInt8):CD:=⟨c.k,c.kd,c.y,c.n,c.e,t,c.o⟩
def contN:Nat→CD→List UInt8→List UInt8→Option (CD × List UInt8)
 | 0,_,_,_=>none
 | f+1,c,raw,s=>
  if hasSuffix raw [38] && hasPrefix s sCON then
   if (s.take 10).drop 8=[32,32]∧c.o=[] then
    match valS sCON ((s.take 80).drop 10) with
    | none=>none
    | some m=>
     if m.1.kd=5∧m.1.o=[] then
      if hasSuffix m.2 [38] then contN f (setT c (trimRightB (raw.take (raw.length - 1) ++ m.2) 32)) (raw.take (raw.length - 1) ++ m.2) (s.drop 80)
      else some (setT c (trimRightB (raw.take (raw.length - 1) ++ m.2) 32),s.drop 80)
     else none
   else none
  else some (c,s)
def readS (s:List UInt8):Option (CD × List UInt8):=
 if remB (trimRightB (s.take 8) 32) then some (⟨trimRightB (s.take 8) 32,1,false,0,0,trimRightB ((s.take 80).drop 8) 32,[]⟩,s.drop 80)
 else if (s.take 10).drop 8=[61,32] then
  match valS (trimRightB (s.take 8) 32) ((s.take 80).drop 10) with
  | none=>none
  | some m=>contN s.length m.1 m.2 (s.drop 80)
 else none
def parN:Nat→List CD→List UInt8→Option (List CD)
 | 0,_,_=>none
 | f+1,out,s=>
  if s=[] then some out
  else
   match readS s with
   | none=>none
   | some m=>if chkC m.1 then parN f (out ++ [m.1]) m.2 else none
def parS (s:List UInt8):List CD × Int:=
 if s.length % 80=0∧prt s=true then
  match parN (s.length+1) [] s with
  | none=>([],12)
  | some l=>if 200 < l.length then ([],4) else (l,0)
 else ([],12)
structure BdC (m:Nat) (c:CD):Prop where
 kd:c.kd≤6
 n1 : -9223372036854775808≤c.n
 n2:c.n≤9223372036854775807
 e1 : -1000000000000≤c.e
 e2:c.e≤1000000000000
 k:c.k.length≤m
 t:c.t.length≤m
 o:c.o.length≤m
theorem parse_bd {s:List UInt8} {v:Int} (h:parseIntB 64 s=.ok v) : -9223372036854775808≤v∧v≤9223372036854775807:=by
 cases s with
 | nil=>simp [parseIntB] at h
 | cons c r=>
  unfold parseIntB at h;dsimp only at h;rw [show (2:Nat) ^ (64 - 1)=9223372036854775808 from rfl] at h;split at h
  ·cases h
  ·cases h
  ·next u hu=>
   split at h
   ·cases h
   ·next h1=>
    split at h
    ·cases h
    ·next h2=>
     injection h with h
     subst h;split
     ·next h3=>constructor <;> omega
     ·next h3=>constructor <;> omega
theorem wholeS_bd {s:List UInt8} {c:CD} (h:wholeS s=some c):BdC 0 c:=by
 unfold wholeS at h;split at h
 ·split at h
  ·next v hv=>
   injection h with h
   subst h;have:=parse_bd hv;exact ⟨by simp,this.1,this.2,by simp,by simp,by simp,by simp,by simp⟩
  ·cases h
 ·cases h
theorem foldl_dig:∀ (s:List UInt8) (n:Int),s.all dig=true→0≤n→0≤s.foldl digN n∧s.foldl digN n < (n+1) * 10 ^ s.length
 | [],n,_,h0=>by simp; omega
 | c :: l,n,h,h0=>by
  rw [List.all_cons,Bool.and_eq_true] at h;have hd:=h.1;unfold dig at hd;rw [Bool.and_eq_true,decide_eq_true_eq,decide_eq_true_eq] at hd;have h1:0≤digN n c:=(by unfold digN; omega);have h2:digN n c+1≤(n+1) * 10:=(by unfold digN; omega);obtain ⟨a,b⟩:=foldl_dig l (digN n c) h.2 h1;refine ⟨a,Int.lt_of_lt_of_le b ?_⟩;rw [List.length_cons,Int.pow_succ,Int.mul_comm (10 ^ l.length) 10,← Int.mul_assoc];exact Int.mul_le_mul_of_nonneg_right h2 (Int.pow_nonneg (by decide))
theorem cntS_bd {s:List UInt8} {lo hi:Nat} {n:Int} (h:cntS s lo hi=some n) (hh:hi≤18):0≤n∧n < 1000000000000000000:=by
 unfold cntS at h;split at h
 ·next h1=>
  injection h with h
  subst h;simp only [Bool.and_eq_true,decide_eq_true_eq] at h1;obtain ⟨a,b⟩:=foldl_dig s 0 h1.2 (by decide);refine ⟨a,Int.lt_of_lt_of_le b ?_⟩;rw [Int.zero_add,Int.one_mul];have h2:(10:Nat) ^ s.length≤10 ^ 18:=Nat.pow_le_pow_right (by decide) (by omega);have h3:((10 ^ s.length:Nat):Int)≤((10 ^ 18:Nat):Int):=Int.ofNat_le.2 h2;rw [Int.natCast_pow] at h3;exact h3
 ·cases h
theorem zerN_bd:∀ (f:Nat) (n e:Int),0≤n→0≤(zerN f n e).1∧(zerN f n e).1≤n∧e≤(zerN f n e).2∧(zerN f n e).2≤e+f
 | 0,n,e,h=>by simp [zerN]; exact h
 | f+1,n,e,h=>by
  unfold zerN;split
  ·next h1=>
   rw [Int.tdiv_eq_ediv_of_nonneg h];have:=zerN_bd f (n / 10) (e+1) (by omega);omega
  ·dsimp only; omega
theorem dcmS_bd {s:List UInt8} {e:Int} {c:CD} (h:dcmS s e=some c) (h1 : -1000≤e) (h2:e≤1000) (hs:s.length≤1000000000):BdC 0 c:=by
 unfold dcmS at h;split at h
 ·cases h
 ·next n hn=>
  injection h with h
  subst h;have hb:=cntS_bd hn (by decide);have hl:=cut_le (sgnS s).2 [46];have hg:=sgnS_len s;generalize hm:(cut (sgnS s).2 [46]).2.1.length=m at *;have hz:=zerN_bd 20 n (e - m) hb.1;refine ⟨by simp,?_,?_,?_,?_,by simp,by simp,by simp⟩
  ·dsimp only; split <;> omega
  ·dsimp only; split <;> omega
  ·dsimp only; split <;> omega
  ·dsimp only; split <;> omega
theorem expO_bd {s:List UInt8} {e:Int} (h:expO s=some e) : -1000≤e∧e≤1000:=by
 have key:∀ (s:List UInt8) (n:Int),cntS s 1 2=some n→0≤n∧n≤99:=by
  intro s n h;unfold cntS at h;split at h
  ·next h1=>
   injection h with h
   subst h;simp only [Bool.and_eq_true,decide_eq_true_eq] at h1;obtain ⟨a,b⟩:=foldl_dig s 0 h1.2 (by decide);have h2:(10:Nat) ^ s.length≤10 ^ 2:=Nat.pow_le_pow_right (by decide) (by omega);have h3:((10 ^ s.length:Nat):Int)≤((10 ^ 2:Nat):Int):=Int.ofNat_le.2 h2;rw [Int.natCast_pow] at h3;rw [Int.zero_add,Int.one_mul] at b;have h4:((10 ^ 2:Nat):Int)=100:=rfl;have h5:((10:Nat):Int) ^ s.length=(10:Int) ^ s.length:=rfl;omega
  ·cases h
 unfold expO at h;split at h
 ·unfold expS at h;split at h
  ·cases h
  ·next x hx=>
   injection h with h
   subst h;have:=key _ _ hx;split <;> omega
 ·injection h with h
  omega
theorem nmbS_bd {s:List UInt8} {c:CD} (h:nmbS s=some c) (hs:s.length≤1000000000):BdC 0 c:=by
 unfold nmbS at h;split at h
 ·split at h
  ·cases h
  ·next e he=>
   have hb:=expO_bd he;have:=cut_le s [69];exact dcmS_bd h hb.1 hb.2 (by omega)
 ·exact wholeS_bd h
theorem tokS_bd {s:List UInt8} {c:CD} (h:tokS s=some c) (hs:s.length≤1000000000):BdC 0 c:=by
 unfold tokS at h;split at h
 ·injection h with h
  subst h;exact ⟨by simp [cd0],by simp [cd0],by simp [cd0],by simp [cd0],by simp [cd0],by simp [cd0],by simp [cd0],by simp [cd0]⟩
 ·split at h
  ·injection h with h
   subst h;exact ⟨by simp,by simp,by simp,by simp,by simp,by simp,by simp,by simp⟩
  ·exact nmbS_bd h hs
theorem noteS_bd {key:List UInt8} {c d:CD} {s:List UInt8} {m:Nat} (h:noteS key c s=some d) (hc:BdC m c) (hs:s.length≤m) (hk:key.length≤m):BdC m d:=by
 unfold noteS at h;split at h
 ·injection h with h
  subst h;refine ⟨hc.kd,hc.n1,hc.n2,hc.e1,hc.e2,hk,hc.t,?_⟩;have h1:=trimL_len s 32;have h2:=trimP_len (trimLeftB s 32) [47];have h3:=trimB_len (trimPrefix (trimLeftB s 32) [47]) 32;show (trimB (trimPrefix (trimLeftB s 32) [47]) 32).length≤m
  omega
 ·cases h
theorem BdC.mono {m m':Nat} {c:CD} (h:BdC m c) (hm:m≤m'):BdC m' c:=⟨h.kd,h.n1,h.n2,h.e1,h.e2,Nat.le_trans h.k hm,Nat.le_trans h.t hm,Nat.le_trans h.o hm⟩
theorem valS_bd {key s:List UInt8} {r:CD × List UInt8} {m:Nat} (h:valS key s=some r) (hs:s.length≤m) (hk:key.length≤m) (hm:m≤1000000000):BdC m r.1∧r.2.length≤m:=by
 have h0:=trimL_len s 32;unfold valS at h;generalize trimLeftB s 32=u at *;split at h
 ·unfold valT at h;split at h
  ·cases h
  ·next q hq=>
   have hl:=quoS_len hq;split at h
   ·cases h
   ·next d hd=>
    injection h with h
    subst h;have ht:=trimR_len q.1 32;exact ⟨noteS_bd hd ⟨by simp,by simp,by simp,by simp,by simp,by simp,by show (trimRightB q.1 32).length≤m; omega,by simp⟩ (by omega) hk,by show q.1.length≤m; omega⟩
 ·unfold valO at h;split at h
  ·cases h
  ·next q hq=>
   split at h
   ·cases h
   ·next d hd=>
    injection h with h
    subst h;have h1:=tokS_bd hq (by rw [List.length_take]; omega);exact ⟨noteS_bd hd (h1.mono (Nat.zero_le _)) (by rw [List.length_drop]; omega) hk,by simp⟩
end Go.Proofs.YtcpofeehpijbcaaGreatDoor
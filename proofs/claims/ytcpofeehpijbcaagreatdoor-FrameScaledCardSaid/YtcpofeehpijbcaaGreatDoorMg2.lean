import Derived.Lib.ItoaNum
import Derived.Lib.TrimByte
import Derived.Lib.Strings
import Derived.Lib.Repeat
import Derived.Lib.Replace
import Derived.Lib.Join
import Derived.Lib.Hide
namespace Go.Proofs.YtcpofeehpijbcaaGreatDoor
open Go.Lib
structure CD where
 k:List UInt8
 kd:Nat
 y:Bool
 n:Int
 e:Int
 t:List UInt8
 o:List UInt8
def sCOM:List UInt8:=[67,79,77,77,69,78,84]
def sHIS:List UInt8:=[72,73,83,84,79,82,89]
def sCON:List UInt8:=[67,79,78,84,73,78,85,69]
def sEND:List UInt8:=[69,78,68]
def pch (c:UInt8):Bool:=decide (32≤c.toNat) && decide (c.toNat≤126)
def prt (l:List UInt8):Bool:=l.all pch
def wch (c:UInt8):Bool:=(decide (65≤c.toNat) && decide (c.toNat≤90)) || (decide (48≤c.toNat) && decide (c.toNat≤57)) || c == 45 || c == 95
def wrdB (l:List UInt8):Bool:=l.all wch && (decide (1≤l.length) && decide (l.length≤8))
def remB (l:List UInt8):Bool:=l == [] || l == sCOM || l == sHIS
def padR (l:List UInt8) (n:Nat):List UInt8:=l ++ List.replicate (n - l.length) 32
def padL (l:List UInt8) (n:Nat):List UInt8:=List.replicate (n - l.length) 32 ++ l
def esc:List UInt8→List UInt8
 | []=>[]
 | c :: l=>if c=39 then 39 :: 39 :: esc l else c :: esc l
def rawF (c:CD):List UInt8:=
 if c.kd=2 then (if c.y then [84] else [70]) else if c.kd=3 then itoa c.n else if c.kd=4 then itoa c.n ++ (46 :: 69 :: itoa c.e) else []
def q1l (c:CD):List UInt8:=if c.kd=5 then padR (39 :: (padR (esc c.t) 8 ++ [39])) 20 else padL (rawF c) 20
def q0o (c:CD):List UInt8:=if c.o=[] then q1l c else q1l c ++ (32 :: 47 :: 32 :: c.o)
def q0x (c:CD):Bool:=
 (c.y && c.kd != 2) || (c.n != 0 && c.kd != 3 && c.kd != 4) || (c.e != 0 && c.kd != 4) || (!(c.t == []) && c.kd != 1 && c.kd != 5) || (!(c.o == []) && c.kd == 1)
def endB (l:List UInt8):Bool:=l.getLast? == some 32
def realB (c:CD):Bool:=decide (-1000000000000000000 < c.n) && decide (c.n < 1000000000000000000) && decide (-30≤c.e) && decide (c.e≤30) && !(c.n.tmod 10 == 0 && !(c.n == 0 && c.e == 0))
def chkC1 (c:CD):Bool:=decide (1≤c.kd) && decide (c.kd≤6) && !q0x c && (prt c.t && prt c.o) && !endB c.t
def chkC2 (c:CD):Bool:=remB c.k && decide (c.t.length≤72) && !hasPrefix c.t [61,32]
def chkC3 (c:CD):Bool:=wrdB c.k && !remB c.k && !(c.k == sCON) && !(c.k == sEND) && (trimB c.o 32 == c.o) && decide (c.t.length≤300)
def chkC4 (c:CD):Bool:=!(decide (70 < (q0o c).length) && (c.kd != 5 || !(c.o == [])))
def chkC (c:CD):Bool:=chkC1 c && (if c.kd=1 then chkC2 c else chkC3 c && (if c.kd=4 then realB c else true) && chkC4 c)
def lineS (c:CD):List UInt8:=if c.kd=1 then padR (padR c.k 8 ++ c.t) 80 else padR (padR c.k 8 ++ (61 :: 32 :: q0o c)) 80
theorem repl_one (c:UInt8):∀ n,repeatL [c] n=List.replicate n c
 | 0=>rfl
 | n+1=>by rw [repeatL,repl_one c n]; rfl
theorem padR_len (l:List UInt8) (n:Nat):(padR l n).length=max l.length n:=by
 unfold padR; rw [List.length_append,List.length_replicate]; omega
theorem padL_len (l:List UInt8) (n:Nat):(padL l n).length=max l.length n:=by
 unfold padL; rw [List.length_append,List.length_replicate]; omega
theorem esc_len:∀ l:List UInt8,l.length≤(esc l).length∧(esc l).length≤2 * l.length
 | []=>by simp [esc]
 | c :: l=>by
  have:=esc_len l;unfold esc;split <;> simp <;> omega
theorem index_one (l:List UInt8) (h:39 ∉ l):index l [39] = -1:=by
 induction l with
 | nil=>rfl
 | cons c l ih=>
  have h1:c≠39:=fun e=>h (by simp [e]);have h2:=ih (fun m=>h (List.mem_cons_of_mem _ m));rw [index,h2];have:([39]:List UInt8).isPrefixOf (c :: l)=false:=(by simp [List.isPrefixOf]; exact fun e=>h1 e.symm);rw [this];rfl
theorem index_hit (a l:List UInt8) (h:39 ∉ a):index (a ++ 39 :: l) [39]=a.length:=by
 induction a with
 | nil=>rw [List.nil_append,index]; rfl
 | cons c a ih=>
  have h1:c≠39:=fun e=>h (by simp [e]);have h2:=ih (fun m=>h (List.mem_cons_of_mem _ m));rw [List.cons_append,index,h2];have:([39]:List UInt8).isPrefixOf (c :: (a ++ 39 :: l))=false:=(by simp [List.isPrefixOf]; exact fun e=>h1 e.symm);rw [this];have h3:((a.length:Int) == -1)=false:=beq_eq_false_iff_ne.2 (by omega);rw [h3];simp
theorem esc_none (l:List UInt8) (h:39 ∉ l):esc l=l:=by
 induction l with
 | nil=>rfl
 | cons c l ih=>
  have h1:c≠39:=fun e=>h (by simp [e]);rw [esc,if_neg h1,ih (fun m=>h (List.mem_cons_of_mem _ m))]
theorem esc_hit (a l:List UInt8) (h:39 ∉ a):esc (a ++ 39 :: l)=a ++ 39 :: 39 :: esc l:=by
 induction a with
 | nil=>rw [List.nil_append,esc,if_pos rfl]; rfl
 | cons c a ih=>
  have h1:c≠39:=fun e=>h (by simp [e]);rw [List.cons_append,esc,if_neg h1,ih (fun m=>h (List.mem_cons_of_mem _ m))];rfl
theorem split39 (l:List UInt8):39 ∉ l∨∃ a b,l=a ++ 39 :: b∧39 ∉ a:=by
 induction l with
 | nil=>exact .inl (by simp)
 | cons c l ih=>
  by_cases hc:c=39
  ·exact .inr ⟨[],l,by simp [hc],by simp⟩
  ·rcases ih with h | ⟨a,b,rfl,h⟩
   ·exact .inl (by simp only [List.mem_cons,not_or]; exact ⟨fun e=>hc e.symm,h⟩)
   ·exact .inr ⟨c :: a,b,rfl,by simp only [List.mem_cons,not_or]; exact ⟨fun e=>hc e.symm,h⟩⟩
theorem replK_esc:∀ (f:Nat) (l:List UInt8),l.length < f→replaceK [39] [39,39] (countFrom [39] f l) l=esc l
 | 0,l,h=>by omega
 | f+1,l,h=>by
  rcases split39 l with h0 | ⟨a,b,rfl,h0⟩
  ·rw [countFrom,index_one l h0,if_pos (by decide),replaceK,esc_none l h0]
  ·have hi:=index_hit a b h0
   have e2:(a ++ 39 :: b).drop (a.length+([39]:List UInt8).length)=b:=by
    rw [show a ++ 39 :: b=(a ++ [39]) ++ b by simp];rw [List.drop_left' (by simp)]
   have e1:(a ++ 39 :: b).take a.length=a:=(by simp);have h3:((a.length:Int) == -1)=false:=beq_eq_false_iff_ne.2 (by omega);rw [countFrom,hi,h3,if_neg (by simp),Int.toNat_natCast,e2,Nat.add_comm,replaceK_hit [39] [39,39] _ _ a.length hi,esc_hit a b h0,e1,e2,replK_esc f b (by simp at h; omega)];simp
theorem replAll_esc (l:List UInt8):replaceAll l [39] [39,39]=esc l:=by
 unfold replaceAll replace replaceNum count;rw [if_neg (by decide),if_pos (.inl (by decide)),replK_esc _ _ (Nat.lt_succ_self _)]
def w4:List UInt8→Nat
 | a :: b :: c :: d :: l=>a.toNat * 16777216+b.toNat * 65536+c.toNat * 256+d.toNat+w4 l
 | _=>0
def tot (n:Nat):Nat:=if n=0 then 0 else (n - 1) % 4294967295+1
theorem tot_lt {n:Nat} (h:n < 4294967296):tot n=n:=by
 unfold tot;split
 ·omega
 ·rw [Nat.mod_eq_of_lt (by omega)]; omega
theorem tot_fold (n:Nat) (h:4294967296≤n):tot (n / 4294967296+n % 4294967296)=tot n:=by
 unfold tot;rw [if_neg (by omega),if_neg (by omega)];have e:n - 1=(n / 4294967296+n % 4294967296 - 1)+n / 4294967296 * 4294967295:=(by omega);rw [e,Nat.add_mul_mod_self_right]
theorem w4_append:∀ (a b:List UInt8),a.length % 4=0→w4 (a ++ b)=w4 a+w4 b
 | [],b,_=>by simp [w4]
 | [_],b,h=>by simp at h
 | [_,_],b,h=>by simp at h
 | [_,_,_],b,h=>by simp at h
 | x :: y :: z :: u :: l,b,h=>by
  have ih:=w4_append l b (by simp at h; omega);simp only [List.cons_append,w4,ih];omega
theorem w4_le:∀ (l:List UInt8),w4 l≤l.length * 1073741824
 | []=>by simp [w4]
 | [_]=>by simp [w4]
 | [_,_]=>by simp [w4]
 | [_,_,_]=>by simp [w4]
 | x :: y :: z :: u :: l=>by
  have ih:=w4_le l;have h1:=x.toNat_lt;have h2:=y.toNat_lt;have h3:=z.toNat_lt;have h4:=u.toNat_lt;simp only [w4,List.length_cons];omega
theorem w4_step (l:List UInt8) (k:Nat) (h:k * 4+3 < l.length) :
  w4 (l.take ((k+1) * 4))=w4 (l.take (k * 4))+(l[k * 4]'(by omega)).toNat * 16777216+(l[k * 4+1]'(by omega)).toNat * 65536+(l[k * 4+2]'(by omega)).toNat * 256+(l[k * 4+3]'(by omega)).toNat:=by
 have e:l.take ((k+1) * 4)=l.take (k * 4) ++ [l[k * 4]'(by omega),l[k * 4+1]'(by omega),l[k * 4+2]'(by omega),l[k * 4+3]'(by omega)]:=by
  rw [show (k+1) * 4=k * 4+1+1+1+1 by omega];rw [← List.take_append_getElem (show k * 4+1+1+1 < l.length by omega),← List.take_append_getElem (show k * 4+1+1 < l.length by omega),← List.take_append_getElem (show k * 4+1 < l.length by omega),← List.take_append_getElem (show k * 4 < l.length by omega)];simp only [List.append_assoc,List.cons_append,List.nil_append]
 rw [e,w4_append _ _ (by rw [List.length_take]; omega)];simp [w4];omega
theorem w4_end (l:List UInt8) (k:Nat) (h:l.length < k * 4+4):w4 (l.take (k * 4))=w4 l:=by
 have e:l=l.take (k * 4) ++ l.drop (k * 4):=(List.take_append_drop _ _).symm;by_cases hk:k * 4≤l.length
 ·conv=>rhs; rw [e]
  rw [w4_append _ _ (by rw [List.length_take]; omega)];have hd:(l.drop (k * 4)).length < 4:=by rw [List.length_drop]; omega
  have:w4 (l.drop (k * 4))=0:=by
   match hm:l.drop (k * 4),hd with
   | [],_=>rfl
   | [_],_=>rfl
   | [_,_],_=>rfl
   | [_,_,_],_=>rfl
  omega
 ·rw [List.take_of_length_le (by omega)]
def barB (c:Nat):Bool:=(decide (58≤c) && decide (c≤64)) || (decide (91≤c) && decide (c≤96))
def bar2 (x y:Nat):Bool:=barB x || barB y
def stp:Nat→Nat→Nat→Nat
 | 0,_,_=>0
 | f+1,x,y=>if bar2 x y then stp f (x+1) (y - 1)+1 else 0
def qx (b k:Nat):Nat:=b / 4+48+(if k=0 then b % 4 else 0)
def nst (b k:Nat):Nat:=stp 20 (qx b k) (b / 4+48)
def cx (b k:Nat):Nat:=qx b k+nst b k
def cy (b k:Nat):Nat:=b / 4+48 - nst b k
def goodC (c:Nat):Bool:=(decide (48≤c) && decide (c≤57)) || (decide (65≤c) && decide (c≤90)) || (decide (97≤c) && decide (c≤122))
def codeOk (b k:Nat):Bool:=decide (nst b k≤10) && !bar2 (cx b k) (cy b k) && ((List.range (nst b k)).all fun j=>bar2 (qx b k+j) (b / 4+48 - j)) && goodC (cx b k) && goodC (cy b k) && (cx b k+cy b k == 2 * (b / 4+48)+(if k=0 then b % 4 else 0))
theorem code_all:((List.range 256).all fun b=>codeOk b 0 && codeOk b 1)=true:=by decide +kernel
theorem code_ok {b k:Nat} (hb:b < 256) (hk:k < 2):codeOk b k=true:=by
 have h:=List.all_eq_true.1 code_all b (List.mem_range.2 hb);rw [Bool.and_eq_true] at h;obtain rfl | rfl:k=0∨k=1:=by omega
 ·exact h.1
 ·exact h.2
def byt (v i:Nat):Nat:=v / 2 ^ (24 - 8 * i) % 256
def cch (v j:Nat):Nat:=if j / 4 % 2=0 then cx (byt v (j % 4)) (j / 8) else cy (byt v (j % 4)) (j / 8)
def codeS (v:Nat):List UInt8:=(List.range 16).map fun p=>UInt8.ofNat (cch v ((p+15) % 16))
end Go.Proofs.YtcpofeehpijbcaaGreatDoor
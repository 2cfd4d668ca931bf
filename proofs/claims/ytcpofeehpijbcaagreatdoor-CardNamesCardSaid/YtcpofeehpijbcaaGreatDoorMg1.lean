import Derived.Lib.ItoaNum
import Derived.Lib.TrimByte
import Derived.Lib.Strings
import Derived.Lib.Repeat
import Derived.Lib.Replace
import Derived.Lib.Join
import Derived.Lib.Hide
namespace Go.Proofs.YtcpofeehpijbcaaGreatDoor
open Go.Lib
structure CD where
 k:List UInt8
 kd:Nat
 y:Bool
 n:Int
 e:Int
 t:List UInt8
 o:List UInt8
def sCOM:List UInt8:=[67,79,77,77,69,78,84]
def sHIS:List UInt8:=[72,73,83,84,79,82,89]
def sCON:List UInt8:=[67,79,78,84,73,78,85,69]
def sEND:List UInt8:=[69,78,68]
def pch (c:UInt8):Bool:=decide (32≤c.toNat) && decide (c.toNat≤126)
def prt (l:List UInt8):Bool:=l.all pch
def wch (c:UInt8):Bool:=(decide (65≤c.toNat) && decide (c.toNat≤90)) || (decide (48≤c.toNat) && decide (c.toNat≤57)) || c == 45 || c == 95
def wrdB (l:List UInt8):Bool:=l.all wch && (decide (1≤l.length) && decide (l.length≤8))
def remB (l:List UInt8):Bool:=l == [] || l == sCOM || l == sHIS
def padR (l:List UInt8) (n:Nat):List UInt8:=l ++ List.replicate (n - l.length) 32
def padL (l:List UInt8) (n:Nat):List UInt8:=List.replicate (n - l.length) 32 ++ l
def esc:List UInt8→List UInt8
 | []=>[]
 | c :: l=>if c=39 then 39 :: 39 :: esc l else c :: esc l
def rawF (c:CD):List UInt8:=
 if c.kd=2 then (if c.y then [84] else [70]) else if c.kd=3 then itoa c.n else if c.kd=4 then itoa c.n ++ (46 :: 69 :: itoa c.e) else []
def fieldS (c:CD):List UInt8:=if c.kd=5 then padR (39 :: (padR (esc c.t) 8 ++ [39])) 20 else padL (rawF c) 20
def q0s (c:CD):List UInt8:=if c.o=[] then fieldS c else fieldS c ++ (32 :: 47 :: 32 :: c.o)
def spareB (c:CD):Bool:=
 (c.y && c.kd != 2) || (c.n != 0 && c.kd != 3 && c.kd != 4) || (c.e != 0 && c.kd != 4) || (!(c.t == []) && c.kd != 1 && c.kd != 5) || (!(c.o == []) && c.kd == 1)
def endB (l:List UInt8):Bool:=l.getLast? == some 32
def realB (c:CD):Bool:=decide (-1000000000000000000 < c.n) && decide (c.n < 1000000000000000000) && decide (-30≤c.e) && decide (c.e≤30) && !(c.n.tmod 10 == 0 && !(c.n == 0 && c.e == 0))
def chkC1 (c:CD):Bool:=decide (1≤c.kd) && decide (c.kd≤6) && !spareB c && (prt c.t && prt c.o) && !endB c.t
def chkC2 (c:CD):Bool:=remB c.k && decide (c.t.length≤72) && !hasPrefix c.t [61,32]
def chkC3 (c:CD):Bool:=wrdB c.k && !remB c.k && !(c.k == sCON) && !(c.k == sEND) && (trimB c.o 32 == c.o) && decide (c.t.length≤300)
def chkC4 (c:CD):Bool:=!(decide (70 < (q0s c).length) && (c.kd != 5 || !(c.o == [])))
def chkC (c:CD):Bool:=chkC1 c && (if c.kd=1 then chkC2 c else chkC3 c && (if c.kd=4 then realB c else true) && chkC4 c)
def lineS (c:CD):List UInt8:=if c.kd=1 then padR (padR c.k 8 ++ c.t) 80 else padR (padR c.k 8 ++ (61 :: 32 :: q0s c)) 80
theorem repl_one (c:UInt8):∀ n,repeatL [c] n=List.replicate n c
 | 0=>rfl
 | n+1=>by rw [repeatL,repl_one c n]; rfl
theorem padR_len (l:List UInt8) (n:Nat):(padR l n).length=max l.length n:=by
 unfold padR; rw [List.length_append,List.length_replicate]; omega
theorem padL_len (l:List UInt8) (n:Nat):(padL l n).length=max l.length n:=by
 unfold padL; rw [List.length_append,List.length_replicate]; omega
theorem esc_len:∀ l:List UInt8,l.length≤(esc l).length∧(esc l).length≤2 * l.length
 | []=>by simp [esc]
 | c :: l=>by
  have:=esc_len l;unfold esc;split <;> simp <;> omega
theorem index_one (l:List UInt8) (h:39 ∉ l):index l [39] = -1:=by
 induction l with
 | nil=>rfl
 | cons c l ih=>
  have h1:c≠39:=fun e=>h (by simp [e]);have h2:=ih (fun m=>h (List.mem_cons_of_mem _ m));rw [index,h2];have:([39]:List UInt8).isPrefixOf (c :: l)=false:=(by simp [List.isPrefixOf]; exact fun e=>h1 e.symm);rw [this];rfl
theorem index_hit (a l:List UInt8) (h:39 ∉ a):index (a ++ 39 :: l) [39]=a.length:=by
 induction a with
 | nil=>rw [List.nil_append,index]; rfl
 | cons c a ih=>
  have h1:c≠39:=fun e=>h (by simp [e]);have h2:=ih (fun m=>h (List.mem_cons_of_mem _ m));rw [List.cons_append,index,h2];have:([39]:List UInt8).isPrefixOf (c :: (a ++ 39 :: l))=false:=(by simp [List.isPrefixOf]; exact fun e=>h1 e.symm);rw [this];have h3:((a.length:Int) == -1)=false:=beq_eq_false_iff_ne.2 (by omega);rw [h3];simp
theorem esc_none (l:List UInt8) (h:39 ∉ l):esc l=l:=by
 induction l with
 | nil=>rfl
 | cons c l ih=>
  have h1:c≠39:=fun e=>h (by simp [e]);rw [esc,if_neg h1,ih (fun m=>h (List.mem_cons_of_mem _ m))]
theorem esc_hit (a l:List UInt8) (h:39 ∉ a):esc (a ++ 39 :: l)=a ++ 39 :: 39 :: esc l:=by
 induction a with
 | nil=>rw [List.nil_append,esc,if_pos rfl]; rfl
 | cons c a ih=>
  have h1:c≠39:=fun e=>h (by simp [e]);rw [List.cons_append,esc,if_neg h1,ih (fun m=>h (List.mem_cons_of_mem _ m))];rfl
theorem split39 (l:List UInt8):39 ∉ l∨∃ a b,l=a ++ 39 :: b∧39 ∉ a:=by
 induction l with
 | nil=>exact .inl (by simp)
 | cons c l ih=>
  by_cases hc:c=39
  ·exact .inr ⟨[],l,by simp [hc],by simp⟩
  ·rcases ih with h | ⟨a,b,rfl,h⟩
   ·exact .inl (by simp only [List.mem_cons,not_or]; exact ⟨fun e=>hc e.symm,h⟩)
   ·exact .inr ⟨c :: a,b,rfl,by simp only [List.mem_cons,not_or]; exact ⟨fun e=>hc e.symm,h⟩⟩
theorem replK_esc:∀ (f:Nat) (l:List UInt8),l.length < f→replaceK [39] [39,39] (countFrom [39] f l) l=esc l
 | 0,l,h=>by omega
 | f+1,l,h=>by
  rcases split39 l with h0 | ⟨a,b,rfl,h0⟩
  ·rw [countFrom,index_one l h0,if_pos (by decide),replaceK,esc_none l h0]
  ·have hi:=index_hit a b h0
   have e2:(a ++ 39 :: b).drop (a.length+([39]:List UInt8).length)=b:=by
    rw [show a ++ 39 :: b=(a ++ [39]) ++ b by simp];rw [List.drop_left' (by simp)]
   have e1:(a ++ 39 :: b).take a.length=a:=(by simp);have h3:((a.length:Int) == -1)=false:=beq_eq_false_iff_ne.2 (by omega);rw [countFrom,hi,h3,if_neg (by simp),Int.toNat_natCast,e2,Nat.add_comm,replaceK_hit [39] [39,39] _ _ a.length hi,esc_hit a b h0,e1,e2,replK_esc f b (by simp at h; omega)];simp
theorem replAll_esc (l:List UInt8):replaceAll l [39] [39,39]=esc l:=by
 unfold replaceAll replace replaceNum count;rw [if_neg (by decide),if_pos (.inl (by decide)),replK_esc _ _ (Nat.lt_succ_self _)]
def w4:List UInt8→Nat
 | a :: b :: c :: d :: l=>a.toNat * 16777216+b.toNat * 65536+c.toNat * 256+d.toNat+w4 l
 | _=>0
def barB (c:Nat):Bool:=(decide (58≤c) && decide (c≤64)) || (decide (91≤c) && decide (c≤96))
def bar2 (x y:Nat):Bool:=barB x || barB y
def stp:Nat→Nat→Nat→Nat
 | 0,_,_=>0
 | f+1,x,y=>if bar2 x y then stp f (x+1) (y - 1)+1 else 0
def qx (b k:Nat):Nat:=b / 4+48+(if k=0 then b % 4 else 0)
def nst (b k:Nat):Nat:=stp 20 (qx b k) (b / 4+48)
def cy (b k:Nat):Nat:=b / 4+48 - nst b k
end Go.Proofs.YtcpofeehpijbcaaGreatDoor
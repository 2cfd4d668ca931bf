import Derived.Test.YtcpofeehpijbcaaGreatDoorCdM
namespace Go.Proofs.YtcpofeehpijbcaaGreatDoor
open Go.Lib
theorem dropW_le (p:UInt8→Bool):∀ l:List UInt8,(l.dropWhile p).length≤l.length
 | []=>Nat.le_refl _
 | c :: l=>by
  rw [List.dropWhile_cons];split
  ·have:=dropW_le p l;simp only [List.length_cons];omega
  ·exact Nat.le_refl _
theorem last_rev (l:List UInt8):l.getLast? = l.reverse.head?:=by simp
theorem trimR_no {l:List UInt8} (h:endB l=false):trimRightB l 32=l:=by
 unfold trimRightB;unfold endB at h;rw [last_rev] at h;generalize hr:l.reverse=r at *;have e:r.reverse=l:=by rw [← hr]; simp
 cases r with
 | nil=>rw [← e]; rfl
 | cons c t=>
  have hc:(c == 32)=false:=(by simpa using h);rw [List.dropWhile_cons,if_neg (by simp [hc]),e]
theorem trimR_yes {l:List UInt8} (h:endB l=true):(trimRightB l 32).length < l.length:=by
 unfold trimRightB;unfold endB at h;rw [last_rev] at h;generalize hr:l.reverse=r at *;have e:l.length=r.length:=by rw [← hr]; simp
 cases r with
 | nil=>simp at h
 | cons c t=>
  have hc:(c == 32)=true:=(by simpa using h);rw [List.dropWhile_cons,if_pos hc,List.length_reverse,e,List.length_cons];have:=dropW_le (fun x=>x == 32) t;omega
theorem trimL_le (l:List UInt8):(trimLeftB l 32).length≤l.length:=dropW_le _ l
theorem pre_one (l:List UInt8) (c:UInt8):hasPrefix l [c]=(l.head? == some c):=by
 unfold hasPrefix
 cases l with
 | nil=>rfl
 | cons x t=>
  show (c == x && true)=(some x == some c)
  rw [Bool.and_true,Bool.eq_iff_iff,beq_iff_eq,beq_iff_eq,Option.some.injEq];exact eq_comm
theorem trimL_no {l:List UInt8} (h:hasPrefix l [32]=false):trimLeftB l 32=l:=by
 rw [pre_one] at h;unfold trimLeftB
 cases l with
 | nil=>rfl
 | cons c t=>
  have hc:(c == 32)=false:=(by simpa using h);rw [List.dropWhile_cons,if_neg (by simp [hc])]
theorem trimL_yes {l:List UInt8} (h:hasPrefix l [32]=true):(trimLeftB l 32).length < l.length:=by
 rw [pre_one] at h;unfold trimLeftB
 cases l with
 | nil=>simp at h
 | cons c t=>
  have hc:(c == 32)=true:=(by simpa using h);rw [List.dropWhile_cons,if_pos hc,List.length_cons];have:=dropW_le (fun x=>x == 32) t;omega
theorem trim_ends (o:List UInt8):(trimB o 32 == o)=(!endB o && !hasPrefix o [32]):=by
 unfold trimB;rw [Bool.eq_iff_iff,beq_iff_eq,Bool.and_eq_true,Bool.not_eq_true',Bool.not_eq_true'];constructor
 ·intro h;have hl:=congrArg List.length h
  have h1:endB o=false:=by
   cases he:endB o with
   | false=>rfl
   | true=>
    have a:=trimR_yes he;have b:=trimL_le (trimRightB o 32);omega
  rw [trimR_no h1] at h hl;refine ⟨h1,?_⟩
  cases hp:hasPrefix o [32] with
  | false=>rfl
  | true=>
   have:=trimL_yes hp;omega
 ·rintro ⟨h1,h2⟩;rw [trimR_no h1,trimL_no h2]
def bareC (c:CD):CD:=
 ⟨c.k,c.kd,c.y && c.kd == 2,if c.kd=3∨c.kd=4 then c.n else 0,if c.kd=4 then c.e else 0,if c.kd=1∨c.kd=5 then c.t else [],if c.kd=1 then [] else c.o⟩
theorem bare_bool:∀ y k1 k2 k3 k4 k5 bn be bt bo:Bool,((!y || k2) && ((k3 || k4) || bn) && (k4 || be) && ((k1 || k5) || bt) && (!k1 || bo)) = !((y && !k2) || (!bn && !k3 && !k4) || (!be && !k4) || (!bt && !k1 && !k5) || (!bo && k1)):=by decide
theorem bare_spare (c:CD):(c.y == (bareC c).y && c.n == (bareC c).n && c.e == (bareC c).e && c.t == (bareC c).t && c.o == (bareC c).o) = !q0l c:=by
 obtain ⟨k,kd,y,n,e,t,o⟩:=c;unfold q0l bareC;dsimp only
 have hn:(n == (if kd=3∨kd=4 then n else 0))=((kd == 3 || kd == 4) || n == 0):=by
  by_cases h3:kd=3
  ·simp [h3]
  ·by_cases h4:kd=4
   ·simp [h4]
   ·simp [h3,h4]
 have he:(e == (if kd=4 then e else 0))=(kd == 4 || e == 0):=by
  by_cases h4:kd=4
  ·simp [h4]
  ·simp [h4]
 have ht:(t == (if kd=1∨kd=5 then t else []))=((kd == 1 || kd == 5) || t == []):=by
  by_cases h3:kd=1
  ·simp [h3]
  ·by_cases h4:kd=5
   ·simp [h4]
   ·simp [h3,h4]
 have ho:(o == (if kd=1 then [] else o))=(!(kd == 1) || o == []):=by
  by_cases h4:kd=1
  ·simp [h4]
  ·simp [h4]
 have hy:(y == (y && kd == 2))=(!y || kd == 2):=(by cases y <;> simp);rw [hn,he,ht,ho,hy];exact bare_bool y (kd == 1) (kd == 2) (kd == 3) (kd == 4) (kd == 5) (n == 0) (e == 0) (t == []) (o == [])
theorem esc_snoc (l:List UInt8) (c:UInt8):esc (l ++ [c])=esc l ++ (if c=39 then [39,39] else [c]):=by
 induction l with
 | nil=>by_cases h:c=39 <;> simp [esc,h]
 | cons x l ih=>
  rw [List.cons_append,esc,esc,ih];split <;> rfl
end Go.Proofs.YtcpofeehpijbcaaGreatDoor
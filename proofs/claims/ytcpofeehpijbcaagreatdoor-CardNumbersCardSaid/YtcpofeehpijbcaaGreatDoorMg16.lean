import Derived.Test.YtcpofeehpijbcaaGreatDoorMg13
import Derived.Test.YtcpofeehpijbcaaGreatDoorRf6
import Derived.Test.YtcpofeehpijbcaaGreatDoorMg15
import Derived.Test.YtcpofeehpijbcaaGreatDoorMg14
namespace Go.Proofs.YtcpofeehpijbcaaGreatDoor
open Go.RowKit Go.Lib Go.Shelf
theorem kf_mul {k j:Nat} {p q:Rat} (hp:Few k p) (hq:Few j q) (hk:k+j≤4096) (A1 B1 A2 B2:Option Addr) (c1 d1 c2 d2:Nat) (w:World) (s1:Sl w A1 (frQ p).1.2 c1) (t1:Sl w B1 (frQ p).2.2 d1) (s2:Sl w A2 (frQ q).1.2 c2) (t2:Sl w B2 (frQ q).2.2 d2) :
  Calls Tryz.prog 21 #[.agg #[.bool (frQ p).1.1,.slice A1 (frQ p).1.2.length c1,.bool (frQ p).2.1,.slice B1 (frQ p).2.2.length d1],.agg #[.bool (frQ q).1.1,.slice A2 (frQ q).1.2.length c2,.bool (frQ q).2.1,.slice B2 (frQ q).2.2.length d2]] w (FRes (frQ (p * q),0) w):=by
 have h:=fmul_good (frQ p).1.1 (frQ p).2.1 (frQ q).1.1 (frQ q).2.1 A1 B1 A2 B2 _ _ _ _ c1 d1 c2 d2 (congrArg Prod.snd (q_mul hp hq hk).1) w s1 t1 s2 t2;rwa [(q_mul hp hq hk).1] at h
theorem kf_of {n:Int} (h1 : -9223372036854775808≤n) (h2:n≤9223372036854775807) (w:World):Calls Tryz.prog 19 #[.int .i64 n,.int .i64 1] w (FRes (frQ (n:Rat),0) w):=by
 have h:=of_any n 1 h1 h2 (by decide) (by decide) w;rwa [of_q (by decide),show Rat.divInt n 1=(n:Rat) by first | exact (Rat.intCast_eq_divInt n).symm | (simp; done) | (rw [Rat.divInt_eq_div]; grind) | (simp; grind)] at h
theorem kfew {n:Int} (h1 : -9223372036854775808≤n) (h2:n≤9223372036854775807):Few 2 (n:Rat):=few_int (by omega) (by decide)
theorem chk_num {k:List UInt8} {n:Int} (h1:wrdB k=true) (h2:remB k=false) (h3:(k == sCON)=false) (h4:(k == sEND)=false) (n1 : -9223372036854775808≤n) (n2:n≤9223372036854775807):chkC ⟨k,3,false,n,0,[],[]⟩=true:=by
 have hb:(q0f ⟨k,3,false,n,0,[],[]⟩).length≤70:=by
  have e:q0f ⟨k,3,false,n,0,[],[]⟩=padL (itoa n) 20:=rfl;have h:=itoa_length_le n n1 n2;rw [e,padL_len];omega
 have e4:chkC4 ⟨k,3,false,n,0,[],[]⟩=true:=by
  unfold chkC4;rw [decide_eq_false (by omega)];rfl
 have e3:chkC3 ⟨k,3,false,n,0,[],[]⟩=true:=by
  unfold chkC3;dsimp only;rw [h1,h2,h3,h4];rfl
 have e1:chkC1 ⟨k,3,false,n,0,[],[]⟩=true:=by
  have e:q0g ⟨k,3,false,n,0,[],[]⟩=false:=(by simp [q0g]);unfold chkC1;rw [e];rfl
 unfold chkC;rw [e1,e3,e4];rfl
theorem SlY.more {w:World} {B B':Nat} {A:Option Addr} {cs:List CD} {c:Nat} (h:SlY w B A cs c) (hB:B≤B'):SlY w B' A cs c:=⟨h.rd.more hB,h.all,h.le,h.len⟩
structure FB (w:World) (g:Nat) (q:Rat) (A:Option Addr) (c:Nat) (B:Option Addr) (d:Nat):Prop where
 k:BlkV w g 43 #[.bool (frQ q).1.1,.slice A (frQ q).1.2.length c,.bool (frQ q).2.1,.slice B (frQ q).2.2.length d]
 s:Sl w A (frQ q).1.2 c
 t:Sl w B (frQ q).2.2 d
theorem FB.keep {w w':World} {g:Nat} {q:Rat} {A:Option Addr} {c:Nat} {B:Option Addr} {d:Nat} (h:FB w g q A c B d) (hb:Below w.heap.size w w'):FB w' g q A c B d:=⟨h.k.keep hb,h.s.below hb,h.t.below hb⟩
theorem FB.fresh {w:World} {q:Rat} {A:Option Addr} {c:Nat} {B:Option Addr} {d:Nat} (s:Sl w A (frQ q).1.2 c) (t:Sl w B (frQ q).2.2 d):FB (w.alloc (.cells #[.bool (frQ q).1.1,.slice A (frQ q).1.2.length c,.bool (frQ q).2.1,.slice B (frQ q).2.2.length d] 43)) w.heap.size q A c B d:=⟨BlkV.fresh rfl _ _,s.alloc _,t.alloc _⟩
end Go.Proofs.YtcpofeehpijbcaaGreatDoor
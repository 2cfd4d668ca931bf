import Derived.Test.YtmepgfigcdeklaaGreatRegI
import Derived.Test.YtmepgfigcdeklaaGreatMg8
namespace Go.Proofs.YtmepgfigcdeklaaGreat
open Go.RowKit
def swZ (l:List Int):Nat→Int
 | 0=>0
 | k+1=>swZ l k+((k * k:Nat):Int) * ((l.getD k 0).natAbs:Int)
def swI (l:List Int) (n long:Int):Int:=(Rat.divInt (swZ l l.length * n) long).ceil
def ovA (s:SG) (f:Int):Int:=max s.F f
def ovB (s:SG) (t:Int):Int:=min s.T t
def ovM (s:SG) (f t:Int):Int:=ovA s f+(ovB s t - ovA s f) / 2
def ovN (s:SG) (f t:Int):Int:=ovB s t - ovA s f+1
def ovW (s:SG) (l:List Int) (f t:Int):Int:=swI l (ovN s f t) (s.T - s.F)
def ovS (s:SG) (f t:Int):V6:=
 ⟨(plV s (ovM s f t)).l0 - ovW s s.l0 f t,(plV s (ovM s f t)).h0+ovW s s.l0 f t,(plV s (ovM s f t)).l1 - ovW s s.l1 f t,(plV s (ovM s f t)).h1+ovW s s.l1 f t,(plV s (ovM s f t)).l2 - ovW s s.l2 f t,(plV s (ovM s f t)).h2+ovW s s.l2 f t⟩
def mgV (v u:V6):V6:=⟨min v.l0 u.l0,max v.h0 u.h0,min v.l1 u.l1,max v.h1 u.h1,min v.l2 u.l2,max v.h2 u.h2⟩
def mgO (o:Option V6) (v:V6):V6:=match o with | none=>v | some u=>mgV v u
def ovIn (s:SG) (f t:Int):Bool:=decide (s.F≤t) && decide (f≤s.T)
def ovF (f t:Int):Option V6→List SG→Option V6
 | o,[]=>o
 | o,s :: r=>ovF f t (if ovIn s f t then some (mgO o (ovS s f t)) else o) r
def chkI (lo hi:Int):Bool:=decide (lo≤hi) && decide (-2305843009213693952≤lo) && decide (hi≤2305843009213693952)
def chkV (v:V6):Bool:=chkI v.l0 v.h0 && chkI v.l1 v.h1 && chkI v.l2 v.h2
def ovR (ss:List SG) (f t:Int):V6 × Int:=let v:=(ovF f t none ss).getD zV6; if chkV v then (v,0) else (zV6,16)
def outT (ss:List SG) (f t:Int):Bool:=decide (f < (ss.head?.map SG.F).getD 0) || decide ((ss.getLast?.map SG.T).getD 0 < t)
noncomputable def ovE (bs:List BG) (i f t:Int):V6 × Int:=
 if chkE bs=0 then match getB bs i with
  | none=>(zV6,6)
  | some b=>if t < f then (zV6,2) else if outT b.ss f t then (zV6,16) else ovR b.ss f t
 else (zV6,chkE bs)
structure Has (u v:V6):Prop where
 a:u.l0≤v.l0∧v.h0≤u.h0
 b:u.l1≤v.l1∧v.h1≤u.h1
 c:u.l2≤v.l2∧v.h2≤u.h2
theorem Has.refl (v:V6):Has v v:=⟨⟨by omega,by omega⟩,⟨by omega,by omega⟩,⟨by omega,by omega⟩⟩
theorem Has.trans {u v w:V6} (h:Has u v) (g:Has v w):Has u w:=⟨⟨by have:=h.a; have:=g.a; omega,by have:=h.a; have:=g.a; omega⟩,⟨by have:=h.b; have:=g.b; omega,by have:=h.b; have:=g.b; omega⟩,⟨by have:=h.c; have:=g.c; omega,by have:=h.c; have:=g.c; omega⟩⟩
theorem ovM_in {s:SG} {f t:Int} (hs:s.F < s.T) (hf:f≤t) (hi:ovIn s f t=true):s.F≤ovA s f∧ovA s f≤ovB s t∧ovB s t≤s.T∧ovA s f≤ovM s f t∧ovM s f t≤ovB s t:=by
 unfold ovIn at hi;simp only [Bool.and_eq_true,decide_eq_true_eq] at hi;unfold ovM ovA ovB;omega
structure Chn (ss:List SG):Prop where
 lt:∀ k (hk:k < ss.length),(ss[k]'hk).F < (ss[k]'hk).T
 ch:∀ k (hk:k+1 < ss.length),(ss[k+1]'hk).F=(ss[k]'(by omega)).T
theorem Chn.tail {s:SG} {r:List SG} (h:Chn (s :: r)):Chn r:=⟨fun k hk=>h.lt (k+1) (by simpa using hk),fun k hk=>h.ch (k+1) (by simpa using hk)⟩
theorem term_bd {l:List Int} (h:q2k l=true) (k:Nat) : -1125899906842624≤l.getD k 0∧l.getD k 0≤1125899906842624:=by
 obtain ⟨h1,h2⟩:=cf_bd h k;unfold cfQ at h1 h2;have e1:(((-1125899906842624:Int)):Rat)≤((l.getD k 0:Int):Rat):=h1;have e2:((l.getD k 0:Int):Rat)≤(((1125899906842624:Int)):Rat):=h2;exact ⟨Rat.intCast_le_intCast.1 e1,Rat.intCast_le_intCast.1 e2⟩
end Go.Proofs.YtmepgfigcdeklaaGreat
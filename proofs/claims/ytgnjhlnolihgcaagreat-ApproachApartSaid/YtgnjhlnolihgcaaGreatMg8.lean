import Derived.Test.YtgnjhlnolihgcaaGreatEphC
import Derived.Test.YtgnjhlnolihgcaaGreatMg7
namespace Go.Proofs.YtgnjhlnolihgcaaGreat
open Go.RowKit
structure V6 where
 l0:Int
 h0:Int
 l1:Int
 h1:Int
 l2:Int
 h2:Int
def zV6:V6:=⟨0,0,0,0,0,0⟩
def V6.val (v:V6):Value:=.agg #[.int .i64 v.l0,.int .i64 v.h0,.int .i64 v.l1,.int .i64 v.h1,.int .i64 v.l2,.int .i64 v.h2]
def xQ (s:SG) (t:Int):Rat:=Rat.divInt (2 * t - s.F - s.T) (s.T - s.F)
def vlQ (l:List Int) (x:Rat):Rat:=chS (cfQ l) (chT x) l.length
def plV (s:SG) (t:Int):V6:=⟨(unS (vlQ s.l0 (xQ s t))).1,(unS (vlQ s.l0 (xQ s t))).2.1,(unS (vlQ s.l1 (xQ s t))).1,(unS (vlQ s.l1 (xQ s t))).2.1,(unS (vlQ s.l2 (xQ s t))).1,(unS (vlQ s.l2 (xQ s t))).2.1⟩
def inS (t:Int) (s:SG):Bool:=decide (s.F≤t) && decide (t≤s.T)
def segOf (ss:List SG) (t:Int):Option SG:=ss.find? (inS t)
def getB (bs:List BG) (i:Int):Option BG:=if 0≤i then bs[i.toNat]? else none
noncomputable def lkE (f:SG→V6 × Int) (bs:List BG) (i t:Int):V6 × Int:=
 if chkE bs=0 then match getB bs i with
  | none=>(zV6,6)
  | some b=>match segOf b.ss t with
   | none=>(zV6,16)
   | some s=>f s
 else (zV6,chkE bs)
noncomputable def plE (bs:List BG) (i t:Int):V6 × Int:=lkE (fun s=>(plV s t,0)) bs i t
def grL (n lo mid hi:Nat):Bool:=(decide (lo < n) && decide (n≤mid)) || decide (hi < n)
def grS (s:SG):Bool:=grL s.l0.length 6 16 30 || grL s.l1.length 6 16 30 || grL s.l2.length 6 16 30
def grBd (b:BG):Bool:=decide (200 < b.nm.length) || grL b.ss.length 4 100 110 || b.ss.any grS
def grE (bs:List BG):Bool:=grL bs.length 4 12 20 || bs.any grBd
structure OkSeg (s:SG):Prop where
 v:segB s=true
 n0:s.l0.length≤6
 n1:s.l1.length≤6
 n2:s.l2.length≤6
theorem grL_few {n lo mid hi:Nat} (h:grL n lo mid hi=false) (hn:n≤mid):n≤lo:=by
 unfold grL at h;simp only [Bool.or_eq_false_iff,Bool.and_eq_false_iff,decide_eq_false_iff_not] at h;omega
theorem ok_seg {bs:List BG} {b:BG} {s:SG} (h:grE bs=false) (hc:chkE bs=0) (hb:b∈bs) (hs:s∈b.ss):OkSeg s:=by
 obtain ⟨-,h2,h3⟩:=chkE_ok hc;have hm:=h2 b hb;unfold grE at h;simp only [Bool.or_eq_false_iff] at h;have h4:=List.any_eq_false.1 h.2 b hb;unfold grBd at h4;simp only [Bool.not_eq_true,Bool.or_eq_false_iff] at h4;have h5:=List.any_eq_false.1 h4.2 s hs;unfold grS at h5;simp only [Bool.not_eq_true,Bool.or_eq_false_iff] at h5;unfold manyB at hm;simp only [Bool.or_eq_false_iff] at hm;have h6:=List.any_eq_false.1 hm.2 s hs;unfold manyS at h6;simp only [Bool.not_eq_true,Bool.or_eq_false_iff,decide_eq_false_iff_not] at h6;obtain ⟨k,hk,rfl⟩:=List.getElem_of_mem hb;obtain ⟨j,hj,rfl⟩:=List.getElem_of_mem hs;exact ⟨(h3.b k hk).sg j hj,grL_few h5.1.1 (by omega),grL_few h5.1.2 (by omega),grL_few h5.2 (by omega)⟩
theorem div_mul {a b:Int} (hb:0 < b):Rat.divInt a b * (b:Rat)=(a:Rat):=by
 rw [Rat.divInt_eq_div];refine Rat.div_mul_cancel ?_;intro h;have:b=0:=(by exact_mod_cast h);omega
theorem bd_of_div {a b m:Int} (hb:0 < b) (h1 : -(m * b)≤a) (h2:a≤m * b) : -(m:Rat)≤Rat.divInt a b∧Rat.divInt a b≤(m:Rat):=by
 have h:=div_mul (a:=a) hb;have hbR:(0:Rat) < (b:Rat):=(by exact_mod_cast hb);have e1:(-((m:Rat) * (b:Rat)))≤(a:Rat):=(by rw [← Rat.intCast_mul,← Rat.intCast_neg]; exact Rat.intCast_le_intCast.2 h1);have e2:(a:Rat)≤(m:Rat) * (b:Rat):=(by rw [← Rat.intCast_mul]; exact Rat.intCast_le_intCast.2 h2);generalize Rat.divInt a b=x at *;rw [← h] at e1 e2;constructor
 ·apply Rat.not_lt.1
  intro h3;have:=Rat.mul_pos (a:=-(m:Rat) - x) (b:=(b:Rat)) (by grind) hbR;grind
 ·apply Rat.not_lt.1
  intro h3;have:=Rat.mul_pos (a:=x - (m:Rat)) (b:=(b:Rat)) (by grind) hbR;grind
theorem xQ_bd {s:SG} {t:Int} (h:s.F < s.T) (h1:s.F≤t) (h2:t≤s.T) : -1≤xQ s t∧xQ s t≤1:=by
 have:=bd_of_div (a:=2 * t - s.F - s.T) (b:=s.T - s.F) (m:=1) (by omega) (by omega) (by omega);exact this
theorem cf_bd {l:List Int} (h:listB l=true) (k:Nat) : -(1125899906842624:Rat)≤cfQ l k∧cfQ l k≤1125899906842624:=by
 unfold listB at h;simp only [Bool.and_eq_true,List.all_eq_true] at h
 have key : -1125899906842624≤l.getD k 0∧l.getD k 0≤1125899906842624:=by
  rw [List.getD_eq_getElem?_getD];by_cases hk:k < l.length
  ·rw [List.getElem?_eq_getElem hk];have:=h.2 _ (List.getElem_mem hk);unfold outB at this;simp only [Bool.not_eq_true',Bool.or_eq_false_iff,decide_eq_false_iff_not] at this;simp only [Option.getD_some];omega
  ·rw [List.getElem?_eq_none (by omega)]; simp
 unfold cfQ;have e1:=Rat.intCast_le_intCast.2 key.1;have e2:=Rat.intCast_le_intCast.2 key.2;exact ⟨e1,e2⟩
theorem vl_bd {l:List Int} {x:Rat} (h:listB l=true) (hn:l.length≤6) (h1 : -1≤x) (h2:x≤1) : -((6755399441055744:Int):Rat)≤vlQ l x∧vlQ l x≤((6755399441055744:Int):Rat):=by
 have hb:=chS_bd h1 h2 (M:=1125899906842624) (c:=cfQ l) (n:=l.length) fun k _=>cf_bd h k;have hl:((l.length:Nat):Rat)≤6:=(by exact_mod_cast hn);have h0:(0:Rat)≤((l.length:Nat):Rat):=(by exact_mod_cast Nat.zero_le _);unfold vlQ;generalize ((l.length:Nat):Rat)=n at *
 have e:((6755399441055744:Int):Rat)=6 * 1125899906842624:=by
  rw [show (6755399441055744:Int)=6 * 1125899906842624 from rfl,Rat.intCast_mul]; rfl
 rw [e];constructor <;> grind
theorem vl_ok {l:List Int} {x:Rat} (h:listB l=true) (hn:l.length≤6) (h1 : -1≤x) (h2:x≤1):unS (vlQ l x)=((vlQ l x).floor,(vlQ l x).ceil,0):=
 unS_ok (by decide) (vl_bd h hn h1 h2).1 (vl_bd h hn h1 h2).2
theorem segOf_in {ss:List SG} {t:Int} {s:SG} (h:segOf ss t=some s):s∈ss∧s.F≤t∧t≤s.T:=by
 have h1:=List.mem_of_find?_eq_some h;have h2:=List.find?_some h;unfold inS at h2;simp only [Bool.and_eq_true,decide_eq_true_eq] at h2;exact ⟨h1,h2⟩
theorem getB_mem {bs:List BG} {i:Int} {b:BG} (h:getB bs i=some b):b∈bs:=by
 unfold getB at h;split at h
 ·exact List.mem_of_getElem? h
 ·cases h
def swZ (l:List Int):Nat→Int
 | 0=>0
 | k+1=>swZ l k+((k * k:Nat):Int) * ((l.getD k 0).natAbs:Int)
def swI (l:List Int) (n long:Int):Int:=(Rat.divInt (swZ l l.length * n) long).ceil
def ovA (s:SG) (f:Int):Int:=max s.F f
def ovB (s:SG) (t:Int):Int:=min s.T t
def ovM (s:SG) (f t:Int):Int:=ovA s f+(ovB s t - ovA s f) / 2
def ovN (s:SG) (f t:Int):Int:=ovB s t - ovA s f+1
def ovW (s:SG) (l:List Int) (f t:Int):Int:=swI l (ovN s f t) (s.T - s.F)
def ovS (s:SG) (f t:Int):V6:=
 ⟨(plV s (ovM s f t)).l0 - ovW s s.l0 f t,(plV s (ovM s f t)).h0+ovW s s.l0 f t,(plV s (ovM s f t)).l1 - ovW s s.l1 f t,(plV s (ovM s f t)).h1+ovW s s.l1 f t,(plV s (ovM s f t)).l2 - ovW s s.l2 f t,(plV s (ovM s f t)).h2+ovW s s.l2 f t⟩
def mgV (v u:V6):V6:=⟨min v.l0 u.l0,max v.h0 u.h0,min v.l1 u.l1,max v.h1 u.h1,min v.l2 u.l2,max v.h2 u.h2⟩
def mgO (o:Option V6) (v:V6):V6:=match o with | none=>v | some u=>mgV v u
def ovIn (s:SG) (f t:Int):Bool:=decide (s.F≤t) && decide (f≤s.T)
def ovF (f t:Int):Option V6→List SG→Option V6
 | o,[]=>o
 | o,s :: r=>ovF f t (if ovIn s f t then some (mgO o (ovS s f t)) else o) r
def chkI (lo hi:Int):Bool:=decide (lo≤hi) && decide (-2305843009213693952≤lo) && decide (hi≤2305843009213693952)
def chkV (v:V6):Bool:=chkI v.l0 v.h0 && chkI v.l1 v.h1 && chkI v.l2 v.h2
def ovR (ss:List SG) (f t:Int):V6 × Int:=let v:=(ovF f t none ss).getD zV6; if chkV v then (v,0) else (zV6,16)
def outT (ss:List SG) (f t:Int):Bool:=decide (f < (ss.head?.map SG.F).getD 0) || decide ((ss.getLast?.map SG.T).getD 0 < t)
noncomputable def ovE (bs:List BG) (i f t:Int):V6 × Int:=
 if chkE bs=0 then match getB bs i with
  | none=>(zV6,6)
  | some b=>if t < f then (zV6,2) else if outT b.ss f t then (zV6,16) else ovR b.ss f t
 else (zV6,chkE bs)
structure Has (u v:V6):Prop where
 a:u.l0≤v.l0∧v.h0≤u.h0
 b:u.l1≤v.l1∧v.h1≤u.h1
 c:u.l2≤v.l2∧v.h2≤u.h2
theorem Has.refl (v:V6):Has v v:=⟨⟨by omega,by omega⟩,⟨by omega,by omega⟩,⟨by omega,by omega⟩⟩
theorem Has.trans {u v w:V6} (h:Has u v) (g:Has v w):Has u w:=⟨⟨by have:=h.a; have:=g.a; omega,by have:=h.a; have:=g.a; omega⟩,⟨by have:=h.b; have:=g.b; omega,by have:=h.b; have:=g.b; omega⟩,⟨by have:=h.c; have:=g.c; omega,by have:=h.c; have:=g.c; omega⟩⟩
theorem mgV_has (v u:V6):Has (mgV v u) v∧Has (mgV v u) u:=by
 unfold mgV;exact ⟨⟨⟨by dsimp only; omega,by dsimp only; omega⟩,⟨by dsimp only; omega,by dsimp only; omega⟩,⟨by dsimp only; omega,by dsimp only; omega⟩⟩,⟨⟨by dsimp only; omega,by dsimp only; omega⟩,⟨by dsimp only; omega,by dsimp only; omega⟩,⟨by dsimp only; omega,by dsimp only; omega⟩⟩⟩
theorem ovF_some {f t:Int} : ∀ {ss:List SG} {u:V6},∃ v,ovF f t (some u) ss=some v∧Has v u
 | [],u=>⟨u,rfl,Has.refl u⟩
 | s :: r,u=>by
  unfold ovF;cases ovIn s f t
  ·obtain ⟨v,h1,h2⟩:=ovF_some (f:=f) (t:=t) (ss:=r) (u:=u);exact ⟨v,h1,h2⟩
  ·obtain ⟨v,h1,h2⟩:=ovF_some (f:=f) (t:=t) (ss:=r) (u:=mgV (ovS s f t) u);exact ⟨v,h1,h2.trans (mgV_has _ _).2⟩
theorem ovF_mem {f t:Int} {s:SG} (hi:ovIn s f t=true):∀ {ss:List SG} {o:Option V6},s∈ss→∃ v,ovF f t o ss=some v∧Has v (ovS s f t)
 | [],_,h=>by cases h
 | x :: r,o,h=>by
  rcases List.mem_cons.1 h with rfl | h
  ·unfold ovF;rw [if_pos hi]
   cases o with
   | none=>exact ovF_some
   | some u=>
    obtain ⟨v,h1,h2⟩:=ovF_some (f:=f) (t:=t) (ss:=r) (u:=mgV (ovS s f t) u);exact ⟨v,h1,h2.trans (mgV_has _ _).1⟩
  ·unfold ovF;exact ovF_mem hi h
theorem swZ_Q (l:List Int):∀ k,((swZ l k:Int):Rat)=swQ (fun j=>(((l.getD j 0).natAbs:Int):Rat)) k
 | 0=>rfl
 | k+1=>by
  unfold swZ swQ;rw [Rat.intCast_add,Rat.intCast_mul,swZ_Q l k];rfl
theorem cf_abs (l:List Int) (k:Nat) : -(((l.getD k 0).natAbs:Int):Rat)≤cfQ l k∧cfQ l k≤(((l.getD k 0).natAbs:Int):Rat):=by
 unfold cfQ;rw [← Rat.intCast_neg];exact ⟨Rat.intCast_le_intCast.2 (by omega),Rat.intCast_le_intCast.2 (by omega)⟩
theorem vl_near {s:SG} {l:List Int} {m u:Int} (hs:s.F < s.T) (hn:l.length≤6) (h1:s.F≤u) (h2:u≤s.T) (h3:s.F≤m) (h4:m≤s.T) {n:Int} (hd1 : -n≤2 * u - 2 * m) (hd2:2 * u - 2 * m≤n) :
  -((swI l n (s.T - s.F):Int):Rat)≤vlQ l (xQ s u) - vlQ l (xQ s m)∧vlQ l (xQ s u) - vlQ l (xQ s m)≤((swI l n (s.T - s.F):Int):Rat):=by
 obtain ⟨x1,x2⟩:=xQ_bd hs h1 h2;obtain ⟨y1,y2⟩:=xQ_bd hs h3 h4;have hb:(0:Int) < s.T - s.F:=(by omega);have hbR:(0:Rat) < ((s.T - s.F:Int):Rat):=(by exact_mod_cast hb);have ex:=div_mul (a:=2 * u - s.F - s.T) hb;have ey:=div_mul (a:=2 * m - s.F - s.T) hb;have ed:=div_mul (a:=n) hb;have ew:=div_mul (a:=swZ l l.length * n) hb;have hc:=(Rat.ceil_le_iff (x:=Rat.divInt (swZ l l.length * n) (s.T - s.F)) (y:=swI l n (s.T - s.F))).1 (Int.le_refl _);have sQ:=swZ_Q l l.length;have e1:((2 * u - s.F - s.T:Int):Rat) - ((2 * m - s.F - s.T:Int):Rat)=((2 * u - 2 * m:Int):Rat):=(by rw [← Rat.intCast_sub]; congr 1; omega);have e2 : -((n:Int):Rat)≤((2 * u - 2 * m:Int):Rat):=(by rw [← Rat.intCast_neg]; exact Rat.intCast_le_intCast.2 hd1);have e3:((2 * u - 2 * m:Int):Rat)≤((n:Int):Rat):=Rat.intCast_le_intCast.2 hd2;rw [Rat.intCast_mul,sQ] at ew;have lip:=fun (d:Rat) (a1 : -d≤xQ s u - xQ s m) (a2:xQ s u - xQ s m≤d)=>chS_lip x1 x2 y1 y2 a1 a2 (c:=cfQ l) (a:=fun j=>(((l.getD j 0).natAbs:Int):Rat)) hn (fun k _=>cf_abs l k);unfold vlQ;unfold xQ at *;generalize swI l n (s.T - s.F)=W at *;generalize swZ l l.length=Z at *;generalize swQ (fun j=>(((l.getD j 0).natAbs:Int):Rat)) l.length=S at *;generalize Rat.divInt (Z * n) (s.T - s.F)=E at *;generalize ((2 * u - 2 * m:Int):Rat)=D at *;generalize ((2 * u - s.F - s.T:Int):Rat)=X0 at *;generalize ((2 * m - s.F - s.T:Int):Rat)=Y0 at *;generalize Rat.divInt (2 * u - s.F - s.T) (s.T - s.F)=x at *;generalize Rat.divInt (2 * m - s.F - s.T) (s.T - s.F)=y at *;generalize Rat.divInt n (s.T - s.F)=d at *;generalize ((s.T - s.F:Int):Rat)=L at *;generalize ((n:Int):Rat)=N at *
 have q1 : -d≤x - y:=by
  apply Rat.not_lt.1
  intro h;have:=Rat.mul_pos (a:=-d - (x - y)) (b:=L) (by grind) hbR;grind
 have q2:x - y≤d:=by
  apply Rat.not_lt.1
  intro h;have:=Rat.mul_pos (a:=(x - y) - d) (b:=L) (by grind) hbR;grind
 have q3:d * S=E:=by
  have:L * (d * S - E)=0:=(by grind);rcases Rat.mul_eq_zero.1 this with h | h
  ·grind
  ·grind
 obtain ⟨r1,r2⟩:=lip d q1 q2;rw [q3] at r1 r2;generalize chS (cfQ l) (chT x) l.length - chS (cfQ l) (chT y) l.length=G at *;constructor <;> grind
theorem ovM_in {s:SG} {f t:Int} (hs:s.F < s.T) (hf:f≤t) (hi:ovIn s f t=true):s.F≤ovA s f∧ovA s f≤ovB s t∧ovB s t≤s.T∧ovA s f≤ovM s f t∧ovM s f t≤ovB s t:=by
 unfold ovIn at hi;simp only [Bool.and_eq_true,decide_eq_true_eq] at hi;unfold ovM ovA ovB;omega
theorem ovS_has {s:SG} {f u t:Int} (h:OkSeg s) (h1:s.F≤u) (h2:u≤s.T) (h3:f≤u) (h4:u≤t):Has (ovS s f t) (plV s u):=by
 have hv:=h.v;unfold segB at hv;simp only [Bool.and_eq_true,decide_eq_true_eq] at hv;have hs:=hv.1.1.1.1.1;have hi:ovIn s f t=true:=(by unfold ovIn; simp; omega);obtain ⟨m1,m2,m3,m4,m5⟩:=ovM_in hs (by omega) hi;have n1 : -(ovN s f t)≤2 * u - 2 * ovM s f t:=(by unfold ovN ovM ovA ovB at *; omega);have n2:2 * u - 2 * ovM s f t≤ovN s f t:=(by unfold ovN ovM ovA ovB at *; omega);obtain ⟨x1,x2⟩:=xQ_bd hs h1 h2;obtain ⟨y1,y2⟩:=xQ_bd hs (t:=ovM s f t) (by omega) (by omega)
 have key:∀ l:List Int,listB l=true→l.length≤6→(unS (vlQ l (xQ s (ovM s f t)))).1 - ovW s l f t≤(unS (vlQ l (xQ s u))).1∧(unS (vlQ l (xQ s u))).2.1≤(unS (vlQ l (xQ s (ovM s f t)))).2.1+ovW s l f t:=fun l hl hn=>by
  rw [vl_ok hl hn x1 x2,vl_ok hl hn y1 y2];obtain ⟨v1,v2⟩:=vl_near (l:=l) hs hn h1 h2 (show s.F≤ovM s f t by omega) (by omega) n1 n2;exact fl_near v1 v2
 exact ⟨key s.l0 hv.1.1.2 h.n0,key s.l1 hv.1.2 h.n1,key s.l2 hv.2 h.n2⟩
structure Chn (ss:List SG):Prop where
 lt:∀ k (hk:k < ss.length),(ss[k]'hk).F < (ss[k]'hk).T
 ch:∀ k (hk:k+1 < ss.length),(ss[k+1]'hk).F=(ss[k]'(by omega)).T
theorem GoodB.chn {b:BG} (h:GoodB b):Chn b.ss:=⟨fun k hk=>by
 have hv:=h.sg k hk;unfold segB at hv;simp only [Bool.and_eq_true,decide_eq_true_eq] at hv;exact hv.1.1.1.1.1,h.ch⟩
theorem Chn.tail {s:SG} {r:List SG} (h:Chn (s :: r)):Chn r:=⟨fun k hk=>h.lt (k+1) (by simpa using hk),fun k hk=>h.ch (k+1) (by simpa using hk)⟩
theorem cover {t:Int} : ∀ {ss:List SG},ss≠[]→Chn ss→(ss.head?.map SG.F).getD 0≤t→t≤(ss.getLast?.map SG.T).getD 0→∃ s∈ss,inS t s=true
 | [],h,_,_,_=>absurd rfl h
 | [s],_,_,h1,h2=>⟨s,by simp,by unfold inS; simp at h1 h2 ⊢; omega⟩
 | s :: s2 :: r,_,hc,h1,h2=>by
  by_cases h3:t≤s.T
  ·exact ⟨s,by simp,by unfold inS; simp at h1 ⊢; omega⟩
  ·have e:s2.F=s.T:=hc.ch 0 (by simp);obtain ⟨x,hx,hi⟩:=cover (t:=t) (ss:=s2 :: r) (by simp) hc.tail (by simp; omega) (by simpa using h2);exact ⟨x,by simp only [List.mem_cons] at hx ⊢; exact .inr hx,hi⟩
theorem cover_bd:∀ {ss:List SG},Chn ss→∀ s∈ss,(ss.head?.map SG.F).getD 0≤s.F∧s.T≤(ss.getLast?.map SG.T).getD 0
 | [],_,s,h=>by cases h
 | [x],_,s,h=>by simp at h; subst h; simp
 | x :: x2 :: r,hc,s,h=>by
  have e:x2.F=x.T:=hc.ch 0 (by simp);have l0:x.F < x.T:=hc.lt 0 (by simp);have l1:x2.F < x2.T:=hc.lt 1 (by simp);have ih:=cover_bd (ss:=x2 :: r) hc.tail;have h2:=ih x2 (by simp);have el:((x :: x2 :: r).getLast?.map SG.T).getD 0=((x2 :: r).getLast?.map SG.T).getD 0:=(by rw [List.getLast?_cons_cons]);rw [el];rcases List.mem_cons.1 h with rfl | h
  ·exact ⟨by simp,by omega⟩
  ·have h3:=ih s h;simp at h3 ⊢;exact ⟨by omega,h3.2⟩
theorem outT_false {ss:List SG} {f t:Int} (h0:ss≠[]) (hc:Chn ss) (hft:f≤t):outT ss f t=false ↔ (segOf ss f).isSome=true∧(segOf ss t).isSome=true:=by
 unfold outT segOf;simp only [Bool.or_eq_false_iff,decide_eq_false_iff_not,Int.not_lt];rw [List.find?_isSome,List.find?_isSome];constructor
 ·intro ⟨h1,h2⟩;refine ⟨cover h0 hc h1 (by omega),cover h0 hc (by omega) h2⟩
 ·intro ⟨⟨s,hs,h1⟩,⟨r,hr,h2⟩⟩;unfold inS at h1 h2;simp only [Bool.and_eq_true,decide_eq_true_eq] at h1 h2;have b1:=cover_bd hc s hs;have b2:=cover_bd hc r hr;omega
theorem one_bd (v:Rat):v.ceil - v.floor≤1∧v.floor≤v.ceil:=by have:=fl_le_ceil v; omega
theorem ov_holds {bs:List BG} {i f t u:Int} {v:V6} (hg:grE bs=false) (h:ovE bs i f t=(v,0)) (h1:f≤u) (h2:u≤t) :
  ∃ p,plE bs i u=(p,0)∧Has v p∧chkV v=true∧(p.h0 - p.l0≤1∧p.h1 - p.l1≤1∧p.h2 - p.l2≤1)∧chkV p=true:=by
 unfold ovE at h;split at h
 ·rename_i hc
  cases hb:getB bs i with
  | none=>rw [hb] at h; simp at h
  | some b=>
   rw [hb] at h;dsimp only at h;have hbm:=getB_mem hb;obtain ⟨-,-,h3⟩:=chkE_ok hc;obtain ⟨k,hk,rfl⟩:=List.getElem_of_mem hbm;have hG:=h3.b k hk;generalize bs[k]'hk=b at *;split at h
   ·simp at h
   ·split at h
    ·simp at h
    ·rename_i h4 h5
     have hne:b.ss≠[]:=(by have:=hG.ne; intro e; rw [e] at this; simp at this);have ho:=(outT_false hne hG.chn (show f≤t by omega)).1 (by cases hh:outT b.ss f t with | false=>rfl | true=>exact absurd hh h5)
     have hu:(segOf b.ss u).isSome=true:=by
      have hcv:(b.ss.head?.map SG.F).getD 0≤f∧t≤(b.ss.getLast?.map SG.T).getD 0:=by
       have:=(outT_false hne hG.chn (show f≤t by omega)).2 ho;unfold outT at this;simp only [Bool.or_eq_false_iff,decide_eq_false_iff_not,Int.not_lt] at this;exact this
      unfold segOf;rw [List.find?_isSome];exact cover hne hG.chn (by omega) (by omega)
     obtain ⟨s,hs⟩:=Option.isSome_iff_exists.1 hu;obtain ⟨hm,u1,u2⟩:=segOf_in hs;have ok:=ok_seg hg hc hbm hm;have hv:=ok.v;unfold segB at hv;simp only [Bool.and_eq_true,decide_eq_true_eq] at hv;obtain ⟨x1,x2⟩:=xQ_bd hv.1.1.1.1.1 u1 u2;have hi:ovIn s f t=true:=(by unfold ovIn; simp; omega);obtain ⟨w,e1,e2⟩:=ovF_mem (f:=f) (t:=t) hi (o:=none) hm;unfold ovR at h;rw [e1] at h;simp only [Option.getD_some] at h;split at h
     ·rename_i hcv
      obtain ⟨rfl,-⟩:=Prod.mk.inj h;have hp:plE bs i u=(plV s u,0):=(by unfold plE lkE; rw [if_pos hc,hb]; simp only [hs]);have hh:=ovS_has ok u1 u2 h1 h2
      have key:∀ l:List Int,listB l=true→l.length≤6→(unS (vlQ l (xQ s u))).2.1 - (unS (vlQ l (xQ s u))).1≤1∧chkI (unS (vlQ l (xQ s u))).1 (unS (vlQ l (xQ s u))).2.1=true:=fun l hl hn=>by
       have hb:=vl_bd hl hn x1 x2;rw [vl_ok hl hn x1 x2];have o1:=one_bd (vlQ l (xQ s u));refine ⟨o1.1,?_⟩;have a : -6755399441055744≤(vlQ l (xQ s u)).floor:=Rat.le_floor_iff.2 (by rw [Rat.intCast_neg]; exact hb.1);have b:(vlQ l (xQ s u)).ceil≤6755399441055744:=Rat.ceil_le_iff.2 hb.2;unfold chkI;simp only [Bool.and_eq_true,decide_eq_true_eq];omega
      obtain ⟨k1,c1⟩:=key s.l0 hv.1.1.2 ok.n0;obtain ⟨k2,c2⟩:=key s.l1 hv.1.2 ok.n1;obtain ⟨k3,c3⟩:=key s.l2 hv.2 ok.n2;exact ⟨_,hp,e2.trans hh,hcv,⟨k1,k2,k3⟩,by unfold chkV plV; rw [c1,c2,c3]; rfl⟩
     ·simp at h
 ·rename_i hc
  simp only [Prod.mk.injEq] at h;exact absurd h.2 hc
end Go.Proofs.YtgnjhlnolihgcaaGreat
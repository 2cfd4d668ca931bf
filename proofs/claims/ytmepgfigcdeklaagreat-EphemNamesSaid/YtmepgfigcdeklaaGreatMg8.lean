import Derived.Test.YtmepgfigcdeklaaGreatEphC
import Derived.Test.YtmepgfigcdeklaaGreatMg7
namespace Go.Proofs.YtmepgfigcdeklaaGreat
open Go.RowKit
structure V6 where
 l0:Int
 h0:Int
 l1:Int
 h1:Int
 l2:Int
 h2:Int
def zV6:V6:=⟨0,0,0,0,0,0⟩
def V6.val (v:V6):Value:=.agg #[.int .i64 v.l0,.int .i64 v.h0,.int .i64 v.l1,.int .i64 v.h1,.int .i64 v.l2,.int .i64 v.h2]
def xQ (s:SG) (t:Int):Rat:=Rat.divInt (2 * t - s.F - s.T) (s.T - s.F)
def byQ (s:SG):Rat:=Rat.divInt 172800000000 (s.T - s.F)
def vlQ (l:List Int) (x:Rat):Rat:=chS (cfQ l) (chT x) l.length
def spQ (l:List Int) (x:Rat):Rat:=chS (cfQ l) (chD x) l.length
def plV (s:SG) (t:Int):V6:=⟨(unS (vlQ s.l0 (xQ s t))).1,(unS (vlQ s.l0 (xQ s t))).2.1,(unS (vlQ s.l1 (xQ s t))).1,(unS (vlQ s.l1 (xQ s t))).2.1,(unS (vlQ s.l2 (xQ s t))).1,(unS (vlQ s.l2 (xQ s t))).2.1⟩
def allV (a b c:Int × Int × Int):V6 × Int:=if a.2.2=0∧b.2.2=0∧c.2.2=0 then (⟨a.1,a.2.1,b.1,b.2.1,c.1,c.2.1⟩,0) else (zV6,16)
def spR (s:SG) (t:Int):V6 × Int:=allV (unS (spQ s.l0 (xQ s t) * byQ s)) (unS (spQ s.l1 (xQ s t) * byQ s)) (unS (spQ s.l2 (xQ s t) * byQ s))
def inS (t:Int) (s:SG):Bool:=decide (s.F≤t) && decide (t≤s.T)
def segOf (ss:List SG) (t:Int):Option SG:=ss.find? (inS t)
def getB (bs:List BG) (i:Int):Option BG:=if 0≤i then bs[i.toNat]? else none
noncomputable def lkE (f:SG→V6 × Int) (bs:List BG) (i t:Int):V6 × Int:=
 if chkE bs=0 then match getB bs i with
  | none=>(zV6,6)
  | some b=>match segOf b.ss t with
   | none=>(zV6,16)
   | some s=>f s
 else (zV6,chkE bs)
noncomputable def plE (bs:List BG) (i t:Int):V6 × Int:=lkE (fun s=>(plV s t,0)) bs i t
noncomputable def spE (bs:List BG) (i t:Int):V6 × Int:=lkE (fun s=>spR s t) bs i t
def grL (n lo mid hi:Nat):Bool:=(decide (lo < n) && decide (n≤mid)) || decide (hi < n)
def grS (s:SG):Bool:=grL s.l0.length 6 16 30 || grL s.l1.length 6 16 30 || grL s.l2.length 6 16 30
def grBd (b:BG):Bool:=decide (200 < b.nm.length) || grL b.ss.length 4 100 110 || b.ss.any grS
def grE (bs:List BG):Bool:=grL bs.length 4 12 20 || bs.any grBd
structure OkSeg (s:SG):Prop where
 v:segB s=true
 n0:s.l0.length≤6
 n1:s.l1.length≤6
 n2:s.l2.length≤6
theorem grL_few {n lo mid hi:Nat} (h:grL n lo mid hi=false) (hn:n≤mid):n≤lo:=by
 unfold grL at h;simp only [Bool.or_eq_false_iff,Bool.and_eq_false_iff,decide_eq_false_iff_not] at h;omega
theorem ok_seg {bs:List BG} {b:BG} {s:SG} (h:grE bs=false) (hc:chkE bs=0) (hb:b∈bs) (hs:s∈b.ss):OkSeg s:=by
 obtain ⟨-,h2,h3⟩:=chkE_ok hc;have hm:=h2 b hb;unfold grE at h;simp only [Bool.or_eq_false_iff] at h;have h4:=List.any_eq_false.1 h.2 b hb;unfold grBd at h4;simp only [Bool.not_eq_true,Bool.or_eq_false_iff] at h4;have h5:=List.any_eq_false.1 h4.2 s hs;unfold grS at h5;simp only [Bool.not_eq_true,Bool.or_eq_false_iff] at h5;unfold manyB at hm;simp only [Bool.or_eq_false_iff] at hm;have h6:=List.any_eq_false.1 hm.2 s hs;unfold manyS at h6;simp only [Bool.not_eq_true,Bool.or_eq_false_iff,decide_eq_false_iff_not] at h6;obtain ⟨k,hk,rfl⟩:=List.getElem_of_mem hb;obtain ⟨j,hj,rfl⟩:=List.getElem_of_mem hs;exact ⟨(h3.b k hk).sg j hj,grL_few h5.1.1 (by omega),grL_few h5.1.2 (by omega),grL_few h5.2 (by omega)⟩
theorem div_mul {a b:Int} (hb:0 < b):Rat.divInt a b * (b:Rat)=(a:Rat):=by
 rw [Rat.divInt_eq_div];refine Rat.div_mul_cancel ?_;intro h;have:b=0:=(by exact_mod_cast h);omega
theorem cf_bd {l:List Int} (h:q2k l=true) (k:Nat) : -(1125899906842624:Rat)≤cfQ l k∧cfQ l k≤1125899906842624:=by
 unfold q2k at h;simp only [Bool.and_eq_true,List.all_eq_true] at h
 have key : -1125899906842624≤l.getD k 0∧l.getD k 0≤1125899906842624:=by
  rw [List.getD_eq_getElem?_getD];by_cases hk:k < l.length
  ·rw [List.getElem?_eq_getElem hk];have:=h.2 _ (List.getElem_mem hk);unfold outB at this;simp only [Bool.not_eq_true',Bool.or_eq_false_iff,decide_eq_false_iff_not] at this;simp only [Option.getD_some];omega
  ·rw [List.getElem?_eq_none (by omega)]; simp
 unfold cfQ;have e1:=Rat.intCast_le_intCast.2 key.1;have e2:=Rat.intCast_le_intCast.2 key.2;exact ⟨e1,e2⟩
theorem segOf_in {ss:List SG} {t:Int} {s:SG} (h:segOf ss t=some s):s∈ss∧s.F≤t∧t≤s.T:=by
 have h1:=List.mem_of_find?_eq_some h;have h2:=List.find?_some h;unfold inS at h2;simp only [Bool.and_eq_true,decide_eq_true_eq] at h2;exact ⟨h1,h2⟩
theorem getB_mem {bs:List BG} {i:Int} {b:BG} (h:getB bs i=some b):b∈bs:=by
 unfold getB at h;split at h
 ·exact List.mem_of_getElem? h
 ·cases h
end Go.Proofs.YtmepgfigcdeklaaGreat
namespace Go.Proofs.YtmepgfigcdeklaaGreat
open Go.RowKit
def tB:Nat→Nat × Nat
 | 0=>(1,2)
 | j+1=>((tB j).2,(tB j).1+(tB j).2+5)
def dB:Nat→Nat × Nat
 | 0=>(1,1)
 | j+1=>((dB j).2,(tB j).2+(dB j).1+(dB j).2+6)
def sB (f:Nat→Nat):Nat→Nat
 | 0=>1
 | n+1=>sB f n+f n+3
theorem few_one:Few 1 (1:Rat):=⟨by decide,by decide⟩
theorem few_none:Few 1 (0:Rat):=⟨by decide,by decide⟩
theorem few_twice:Few 1 (2:Rat):=⟨by decide,by decide⟩
theorem few_minus:Few 1 (-1:Rat):=⟨by decide,by decide⟩
section
variable {x:Rat} {c:Nat→Rat} (hx:Few 2 x)
include hx
theorem chT_few:∀ j,(tB j).1+(tB j).2≤3000→Few (tB j).1 (chT x j)∧Few (tB j).2 (chT x (j+1))
 | 0,_=>⟨few_one,hx⟩
 | j+1,h=>by
  simp only [tB] at h;obtain ⟨h1,h2⟩:=chT_few j (by omega);have m1:=(q_mul hx h2 (by omega)).2;have m2:=(q_mul few_twice m1 (by omega)).2;have m3:=(q_mul few_minus h1 (by omega)).2;have m4:=(q_add m2 m3 (by omega)).2;exact ⟨h2,m4.up (by simp only [tB]; omega)⟩
theorem chD_few:∀ j,(tB j).1+(tB j).2≤3000→(tB j).2+(dB j).1+(dB j).2≤3000→(∀ i,i≤j→(tB i).1+(tB i).2≤3000∧(tB i).2+(dB i).1+(dB i).2≤3000)→Few (dB j).1 (chD x j)∧Few (dB j).2 (chD x (j+1))
 | 0,_,_,_=>⟨few_none,few_one⟩
 | j+1,_,_,ha=>by
  obtain ⟨h1,h2⟩:=chD_few j (ha j (by omega)).1 (ha j (by omega)).2 (fun i hi=>ha i (by omega));obtain ⟨-,t⟩:=chT_few hx j (ha j (by omega)).1;have hb:=(ha j (by omega)).2;have m1:=(q_mul hx h2 (by omega)).2;have m2:=(q_add t m1 (by omega)).2;have m3:=(q_mul few_twice m2 (by omega)).2;have m4:=(q_mul few_minus h1 (by omega)).2;have m5:=(q_add m3 m4 (by omega)).2;exact ⟨h2,m5.up (by simp only [dB]; omega)⟩
end
theorem chS_few {c P:Nat→Rat} {f:Nat→Nat} (hc:∀ k,Few 2 (c k)):∀ n,(∀ k,k < n→Few (f k) (P k))→(∀ k,k≤n→sB f k≤3000)→(∀ k,k < n→f k≤1000)→Few (sB f n) (chS c P n)
 | 0,_,_,_=>few_none
 | n+1,hP,hs,hf=>by
  have ih:=chS_few hc n (fun k hk=>hP k (by omega)) (fun k hk=>hs k (by omega)) (fun k hk=>hf k (by omega));have b1:=hs n (by omega);have b2:=hf n (by omega);have m1:=(q_mul (hc n) (hP n (by omega)) (by omega)).2;have m2:=(q_add ih m1 (by omega)).2;exact m2.up (by simp only [sB]; omega)
structure FewV (l:List Int) (x:Rat) (j:Nat):Prop where
 t:Few 700 (chT x j)
 d:Few 700 (chD x j)
 s:Few 700 (chS (cfQ l) (chT x) j)
 e:Few 700 (chS (cfQ l) (chD x) j)
theorem few_v {l:List Int} {x:Rat} (hc:∀ k,Few 2 (cfQ l k)) (hx:Few 2 x) {j:Nat} (hj:j≤6):FewV l x j:=by
 have a:∀ i,i≤6→(tB i).1+(tB i).2≤3000∧(tB i).2+(dB i).1+(dB i).2≤3000:=(by decide);have b:∀ i,i≤6→(tB i).1≤700∧(dB i).1≤700∧sB (fun i=>(tB i).1) i≤700∧sB (fun i=>(dB i).1) i≤700:=(by decide);have hT:∀ i,i≤6→Few (tB i).1 (chT x i):=fun i hi=>(chT_few hx i (a i hi).1).1;have hD:∀ i,i≤6→Few (dB i).1 (chD x i):=fun i hi=>(chD_few hx i (a i hi).1 (a i hi).2 (fun k hk=>a k (by omega))).1;have hb:=b j hj
 exact ⟨(hT j hj).up hb.1,(hD j hj).up hb.2.1,
  (chS_few hc j (fun k hk=>hT k (by omega)) (fun k hk=>by have:=(b k (by omega)).2.2.1; omega) (fun k hk=>by have:=(b k (by omega)).1; omega)).up hb.2.2.1,
  (chS_few hc j (fun k hk=>hD k (by omega)) (fun k hk=>by have:=(b k (by omega)).2.2.2; omega) (fun k hk=>by have:=(b k (by omega)).2.1; omega)).up hb.2.2.2⟩
noncomputable def hasE (bs:List BG) (i:Int):Int:=if chkE bs=0 then (if 0≤i∧i < bs.length then 0 else 6) else chkE bs
theorem getB_some {bs:List BG} {i:Int} (h:0≤i∧i < bs.length):getB bs i=some (bs[i.toNat]'(by omega)):=by
 unfold getB; rw [if_pos h.1,List.getElem?_eq_getElem]
theorem getB_none {bs:List BG} {i:Int} (h:¬ (0≤i∧i < bs.length)):getB bs i=none:=by
 unfold getB;split
 ·rw [List.getElem?_eq_none]; omega
 ·rfl
end Go.Proofs.YtmepgfigcdeklaaGreat
import Derived.Test.YtgnjhlnolihgcaaGreatEphR
import Derived.Deep.CutRange
import Derived.Deep.RegionHeld
import Derived.Test.YtgnjhlnolihgcaaGreatMg16
import Derived.Test.YtgnjhlnolihgcaaGreatEphRow
set_option maxRecDepth 100000
namespace Go.Proofs.YtgnjhlnolihgcaaGreat
open Go.RowKit
attribute [local go_sem ↓] Go.wp_at_zero Go.wp_at_succ
theorem GoodK.zero (bs:List BG):GoodK bs 0:=fun j hj h=>by omega
end Go.Proofs.YtgnjhlnolihgcaaGreat
namespace Go.Proofs.YtgnjhlnolihgcaaGreat
open Go.RowKit
theorem term_bd {l:List Int} (h:listB l=true) (k:Nat) : -1125899906842624≤l.getD k 0∧l.getD k 0≤1125899906842624:=by
 obtain ⟨h1,h2⟩:=cf_bd h k;unfold cfQ at h1 h2;have e1:(((-1125899906842624:Int)):Rat)≤((l.getD k 0:Int):Rat):=h1;have e2:((l.getD k 0:Int):Rat)≤(((1125899906842624:Int)):Rat):=h2;exact ⟨Rat.intCast_le_intCast.1 e1,Rat.intCast_le_intCast.1 e2⟩
end Go.Proofs.YtgnjhlnolihgcaaGreat
namespace Go.Proofs.YtgnjhlnolihgcaaGreat
open Go.RowKit
attribute [local go_sem ↓] Go.wp_at_zero Go.wp_at_succ
theorem sli_blk {w:World} {g:Nat} {t:TypeId} {l:List Int} (h:BlkV w g t (cI l).toArray) (hl:In64 l) (hn:l.length≤17592186044416):SlI w w.heap.size (some ⟨g,0,none⟩) l l.length:=
 ⟨(RdV.of_blk h).here,hl,Nat.le_refl _,hn⟩
theorem sls_one {w:World} {g:Nat} {t:TypeId} {s:SG} (h:BlkV w g t s.cells.toArray) (ok:OkS w w.heap.size s):SlS w w.heap.size (some ⟨g,0,none⟩) [s] 1:=
 ⟨by have:=(RdV.of_blk h).here; simpa using this,fun x hx=>by rw [List.mem_singleton] at hx; subst hx; exact ok,by simp,by simp⟩
theorem slb_one {w:World} {g:Nat} {t:TypeId} {b:BG} (h:BlkV w g t b.cells.toArray) (ok:OkB w w.heap.size b):SlB w w.heap.size (some ⟨g,0,none⟩) [b] 1:=
 ⟨by have:=(RdV.of_blk h).here; simpa using this,fun x hx=>by rw [List.mem_singleton] at hx; subst hx; exact ok,by simp,by simp⟩
theorem in64_small {l:List Int} (h:l.all (fun x=>decide (-1000≤x) && decide (x≤1000))=true):In64 l:=fun x hx=>by
 have:=List.all_eq_true.1 h x hx;simp only [Bool.and_eq_true,decide_eq_true_eq] at this;omega
def OkI (lo hi:Int):Prop:=lo≤hi ∧ -2305843009213693952≤lo∧hi≤2305843009213693952
structure OkV (v:V6):Prop where
 a:OkI v.l0 v.h0
 b:OkI v.l1 v.h1
 c:OkI v.l2 v.h2
theorem unS_okI (v:Rat):OkI (unS v).1 (unS v).2.1:=by
 unfold OkI unS;split
 ·exact ⟨by decide,by decide,by decide⟩
 ·have:=(fl_le_ceil v).1;exact ⟨by dsimp only; omega,by dsimp only; omega,by dsimp only; omega⟩
theorem plV_okV (s:SG) (t:Int):OkV (plV s t):=⟨unS_okI _,unS_okI _,unS_okI _⟩
end Go.Proofs.YtgnjhlnolihgcaaGreat
namespace Go.Proofs.YtgnjhlnolihgcaaGreat
open Go.RowKit
def c6 (v:V6):List Value:=[.int .i64 v.l0,.int .i64 v.h0,.int .i64 v.l1,.int .i64 v.h1,.int .i64 v.l2,.int .i64 v.h2]
structure TB where
 F:Int
 T:Int
 hull:V6
 fast:V6
 p:V6
 v:V6
def TB.cells (t:TB):List Value:=[.int .i64 t.F,.int .i64 t.T,
 .int .i64 t.hull.l0,.int .i64 t.hull.h0,.int .i64 t.hull.l1,.int .i64 t.hull.h1,.int .i64 t.hull.l2,.int .i64 t.hull.h2,
 .int .i64 t.fast.l0,.int .i64 t.fast.h0,.int .i64 t.fast.l1,.int .i64 t.fast.h1,.int .i64 t.fast.l2,.int .i64 t.fast.h2,
 .int .i64 t.p.l0,.int .i64 t.p.h0,.int .i64 t.p.l1,.int .i64 t.p.h1,.int .i64 t.p.l2,.int .i64 t.p.h2,
 .int .i64 t.v.l0,.int .i64 t.v.h0,.int .i64 t.v.l1,.int .i64 t.v.h1,.int .i64 t.v.l2,.int .i64 t.v.h2]
structure In6 (v:V6):Prop where
 a0 : -9223372036854775808≤v.l0∧v.l0≤9223372036854775807
 b0 : -9223372036854775808≤v.h0∧v.h0≤9223372036854775807
 a1 : -9223372036854775808≤v.l1∧v.l1≤9223372036854775807
 b1 : -9223372036854775808≤v.h1∧v.h1≤9223372036854775807
 a2 : -9223372036854775808≤v.l2∧v.l2≤9223372036854775807
 b2 : -9223372036854775808≤v.h2∧v.h2≤9223372036854775807
structure OkT (t:TB):Prop where
 fb : -9223372036854775808≤t.F∧t.F≤9223372036854775807
 tb : -9223372036854775808≤t.T∧t.T≤9223372036854775807
 hull:In6 t.hull
 fast:In6 t.fast
 p:In6 t.p
 v:In6 t.v
structure SlT (w:World) (B:Nat) (A:Option Addr) (l:List TB) (c:Nat):Prop where
 rd:RdV w B A (l.flatMap TB.cells)
 all:∀ t∈l,OkT t
 le:l.length≤c
 len:l.length≤4398046511104
section
variable {w w':World} {B:Nat} {A:Option Addr} {l:List TB} {c k:Nat}
theorem SlT.below (h:SlT w B A l c) (hb:Below w.heap.size w w'):SlT w' B A l c:=⟨h.rd.below hb,h.all,h.le,h.len⟩
theorem SlT.at_ (h:SlT w B A l c) (hk:k < l.length) :
  ∃ b o,A=some ⟨b,o,none⟩∧b < B∧(∀ j v,(l[k]'hk).cells[j]? = some v→w.cell? ⟨b,o+k * 26+j,none⟩=some v)∧OkT (l[k]'hk):=by
 obtain ⟨b,o,e,hb,hc⟩:=h.rd.flat (m:=26) (fun _=>rfl) hk (by omega);exact ⟨b,o,e,hb,hc,h.all _ (List.getElem_mem hk)⟩
end
def okTb (t:TB):Bool:=chkV t.hull && (chkV t.fast && (chkV t.p && (chkV t.v && decide (t.F < t.T))))
def okAt (l:List TB) (i:Nat):Bool:=match l[i]?,l[i - 1]? with
 | some t,some u=>okTb t && (decide (i=0) || decide (t.F=u.T))
 | _,_=>false
def okLs (l:List TB) (n:Nat):Bool:=(List.range n).all (okAt l)
def chkA (l:List TB):Int:=if 200 < l.length then 4 else if l.length=0 then 8 else if okLs l l.length then 0 else 8
theorem okLs_next (l:List TB) (n:Nat):okLs l (n+1)=(okLs l n && okAt l n):=by
 unfold okLs;rw [List.range_succ,List.all_append];simp
theorem okLs_le {l:List TB} {n m:Nat} (h:okLs l m=true) (hn:n≤m):okLs l n=true:=by
 unfold okLs at *;rw [List.all_eq_true] at *;intro x hx;exact h x (List.mem_range.2 (by have:=List.mem_range.1 hx; omega))
theorem okLs_bad {l:List TB} {n:Nat} (hn:n < l.length) (h:okAt l n=false):okLs l l.length=false:=by
 cases h2:okLs l l.length with
 | false=>rfl
 | true=>
  have:=okLs_le (n:=n+1) h2 (by omega);rw [okLs_next,h,Bool.and_false] at this;cases this
theorem okAt_of {l:List TB} (h:chkA l=0) {k:Nat} (hk:k < l.length):okTb (l[k]'hk)=true:=by
 unfold chkA at h;split at h
 ·omega
 ·split at h
  ·omega
  ·split at h
   ·next h2=>
    have h3:=okLs_le (n:=k+1) h2 (by omega);rw [okLs_next,Bool.and_eq_true] at h3;have h4:=h3.2;unfold okAt at h4;rw [List.getElem?_eq_getElem hk,List.getElem?_eq_getElem (show k - 1 < l.length by omega)] at h4;simp only [Bool.and_eq_true] at h4;exact h4.1
   ·omega
def nearZ (xl xh yl yh:Int):Int:=max (max 0 (xl - yh)) (yl - xh)
def farZ (xl xh yl yh:Int):Int:=max (xh - yl) (yh - xl)
def nr (a b:V6) (k:Nat):Int:=nearZ (lo6 a k) (hi6 a k) (lo6 b k) (hi6 b k)
def fr (a b:V6) (k:Nat):Int:=farZ (lo6 a k) (hi6 a k) (lo6 b k) (hi6 b k)
def sqS (f:Nat→Int):Nat→Int
 | 0=>0
 | k+1=>sqS f k+f k ^ 2
def gapZ (a b:V6):Int:=sqS (nr a b) 3
def endZ (a b:V6):Int:=sqS (fr a b) 3
theorem ok6 {v:V6} (h:chkV v=true) {k:Nat} (hk:k < 3):lo6 v k≤hi6 v k ∧ -2305843009213693952≤lo6 v k∧hi6 v k≤2305843009213693952:=by
 unfold chkV chkI at h;simp only [Bool.and_eq_true,decide_eq_true_eq] at h;obtain ⟨⟨h0,h1⟩,h2⟩:=h;unfold lo6 hi6;rcases (show k=0∨k=1∨k=2 by omega) with rfl | rfl | rfl
 ·simp only [if_pos]; omega
 ·simp only [if_pos,if_neg (show ¬ (1:Nat)=0 by omega)]; omega
 ·simp only [if_neg (show ¬ (2:Nat)=0 by omega),if_neg (show ¬ (2:Nat)=1 by omega)]; omega
theorem nr_bd {a b:V6} (ha:chkV a=true) (hb:chkV b=true) {k:Nat} (hk:k < 3):0≤nr a b k∧nr a b k≤4611686018427387904:=by
 have:=ok6 ha hk;have:=ok6 hb hk;unfold nr nearZ;omega
theorem fr_bd {a b:V6} (ha:chkV a=true) (hb:chkV b=true) {k:Nat} (hk:k < 3):0≤fr a b k∧fr a b k≤4611686018427387904:=by
 have:=ok6 ha hk;have:=ok6 hb hk;unfold fr farZ;omega
theorem sqr_bd {x:Int} (h0:0≤x) (h:x≤4611686018427387904):0≤x ^ 2∧x ^ 2≤21267647932558653966460912964485513216:=by
 rw [show x ^ 2=x * x by rw [Int.pow_succ,Int.pow_succ,Int.pow_zero,Int.one_mul]];refine ⟨Int.mul_nonneg h0 h0,?_⟩;have:=Int.mul_le_mul h h h0 (by omega);omega
theorem sqS_bd {f:Nat→Int} (h:∀ k,k < 3→0≤f k∧f k≤4611686018427387904):∀ n,n≤3→0≤sqS f n∧sqS f n≤n * 21267647932558653966460912964485513216
 | 0,_=>⟨Int.le_refl _,Int.le_refl _⟩
 | n+1,hn=>by
  obtain ⟨h1,h2⟩:=sqS_bd h n (by omega);obtain ⟨h3,h4⟩:=h n (by omega);obtain ⟨h5,h6⟩:=sqr_bd h3 h4;unfold sqS;omega
noncomputable def gpS (bs:List BG) (i:Int) (t:TB):(Int × Int) × Int:=
 if chkA [t]≠0 then ((0,0),chkA [t]) else
 if (ovE bs i t.F t.T).2≠0 then ((0,0),(ovE bs i t.F t.T).2) else
 if (plE bs i t.T).2≠0 then ((0,0),(plE bs i t.T).2) else ((gapZ t.hull (ovE bs i t.F t.T).1,endZ t.p (plE bs i t.T).1),0)
noncomputable def lkS (bs:List BG) (i:Int):List TB→List (Int × Int) × Int
 | []=>([],0)
 | t :: r=>if (gpS bs i t).2≠0 then ([],(gpS bs i t).2) else if (lkS bs i r).2≠0 then ([],(lkS bs i r).2) else ((gpS bs i t).1 :: (lkS bs i r).1,0)
end Go.Proofs.YtgnjhlnolihgcaaGreat
namespace Go.Proofs.YtgnjhlnolihgcaaGreat
open Go.ChangeShapes Go.WideShapes Go.ChangeAt Go.RowKit Go.Joins Go.Deep
section
variable {H:Type} {enc:TypeId × Value→H}
theorem trod_array3_2 {P:Program} {w:World} {base:Nat} {spare:Nat→Bool} {held:Bool} {t e:TypeId} {fuel:Nat} {c0 c1 c2 c3 c4 c5:Value} {x:DataW H × List MemPlace} (ht:P.underlying t=some (.array 3 e)) (hce:P.cellsOf e=2)
  (h:DataW.trod enc P w base spare held fuel t [c0,c1,c2,c3,c4,c5]=some x) :
  ∃ y0 y1 y2 n,x=(.agg [y0.1,y1.1,y2.1],y0.2 ++ (y1.2 ++ y2.2))∧DataW.trod enc P w base spare held n e [c0,c1]=some y0∧DataW.trod enc P w base spare held n e [c2,c3]=some y1∧DataW.trod enc P w base spare held n e [c4,c5]=some y2:=by
 cases fuel with
 | zero=>simp [DataW.trod] at h
 | succ n=>
  unfold DataW.trod at h;rw [ht] at h;have r3:List.range 3=[0,1,2]:=rfl;simp [r3,hce] at h;obtain ⟨_,h⟩:=h
  cases h0:DataW.trod enc P w base spare held n e [c0,c1] with
  | none=>simp [h0] at h
  | some y0=>
   cases h1:DataW.trod enc P w base spare held n e [c2,c3] with
   | none=>simp [h0,h1] at h
   | some y1=>
    cases h2:DataW.trod enc P w base spare held n e [c4,c5] with
    | none=>simp [h0,h1,h2] at h
    | some y2=>
     simp [h0,h1,h2] at h;exact ⟨y0,y1,y2,n,h.symm,h0,h1,h2⟩
theorem open_iv {W:World} {fuel:Nat} {c0 c1:Value} {y:DataW H × List MemPlace} (h:DataW.trod enc Tryz.prog W 0 (fun _=>true) true fuel 37 [c0,c1]=some y) :
  ∃ a b:Int,c0=.int .i64 a∧c1=.int .i64 b∧(-9223372036854775808≤a∧a≤9223372036854775807) ∧ -9223372036854775808≤b∧b≤9223372036854775807:=by
 obtain ⟨y0,y1,n,hx,_,h0,h1⟩:=trod_struct2 Tryz.underlying37 h;simp [show Tryz.prog.cellsOf 2 = 1 by kernel_rfl] at h0 h1;obtain ⟨m0,e0,_,w0⟩:=DataW.trod_int Tryz.underlying2 h0;obtain ⟨m1,e1,_,w1⟩:=DataW.trod_int Tryz.underlying2 h1;simp only [List.cons.injEq,and_true] at e0 e1;exact ⟨m0,m1,e0,e1,bounds_i64 w0,bounds_i64 w1⟩
theorem open_vec {W:World} {fuel:Nat} {c0 c1 c2 c3 c4 c5:Value} {y:DataW H × List MemPlace} (h:DataW.trod enc Tryz.prog W 0 (fun _=>true) true fuel 39 [c0,c1,c2,c3,c4,c5]=some y) :
  ∃ v:V6,(c0=.int .i64 v.l0∧c1=.int .i64 v.h0∧c2=.int .i64 v.l1∧c3=.int .i64 v.h1∧c4=.int .i64 v.l2∧c5=.int .i64 v.h2)∧In6 v:=by
 obtain ⟨y0,y1,y2,n,_,h0,h1,h2⟩:=trod_array3_2 Tryz.underlying39 (by kernel_rfl) h;obtain ⟨a0,b0,e0,e1,p0,q0⟩:=open_iv h0;obtain ⟨a1,b1,e2,e3,p1,q1⟩:=open_iv h1;obtain ⟨a2,b2,e4,e5,p2,q2⟩:=open_iv h2;exact ⟨⟨a0,b0,a1,b1,a2,b2⟩,⟨e0,e1,e2,e3,e4,e5⟩,⟨p0,q0,p1,q1,p2,q2⟩⟩
theorem cells_tube:Tryz.prog.cellsOf 41 = 26:=by kernel_rfl
theorem open_tubes {W:World} {v:Value} {y:DataW H × List MemPlace} {fuel:Nat} (h:DataW.trod enc Tryz.prog W 0 (fun _=>true) true fuel 25 [v]=some y) (hw:∀ n∈y.1.weights Tryz.prog 25,n≤reachBytes) :
  ∃ (A:Option Addr) (l:List TB) (c:Nat),v=.slice A l.length c∧SlT W W.heap.size A l c:=by
 have hEl:∀ (cs:List Value) (n:Nat) (d:DataW H) (p:List MemPlace),cs.length=26→DataW.trod enc Tryz.prog W 0 (fun _=>true) true n 41 cs=some (d,p)→(∀ k∈d.weights Tryz.prog 41,k≤reachBytes)→∃ x:TB,cs=x.cells∧OkT x:=by
  intro cs n d p hl hd hw
  match cs,hl with
  | [v0,v1,v2,v3,v4,v5,v6,v7,v8,v9,v10,v11,v12,v13,v14,v15,v16,v17,v18,v19,v20,v21,v22,v23,v24,v25],_=>
   obtain ⟨xs,n2,_,hx,_,hlen,hf⟩:=DataW.trod_struct Tryz.underlying41 hd
   match xs,hlen with
   | [y0,y1,y2,y3,y4,y5],_=>
    have h0:=hf 0 _ rfl;have h1:=hf 1 _ rfl;have h2:=hf 2 _ rfl;have h3:=hf 3 _ rfl;have h4:=hf 4 _ rfl;have h5:=hf 5 _ rfl;clear hf;simp [show Tryz.prog.cellsOf 2 = 1 by kernel_rfl,show Tryz.prog.cellsOf 39 = 6 by kernel_rfl] at h0 h1 h2 h3 h4 h5;obtain ⟨m0,e0,_,w0⟩:=DataW.trod_int Tryz.underlying2 h0;obtain ⟨m1,e1,_,w1⟩:=DataW.trod_int Tryz.underlying2 h1;simp only [List.cons.injEq,and_true] at e0 e1;obtain ⟨u2,⟨a0,a1,a2,a3,a4,a5⟩,i2⟩:=open_vec h2;obtain ⟨u3,⟨b0,b1,b2,b3,b4,b5⟩,i3⟩:=open_vec h3;obtain ⟨u4,⟨c0,c1,c2,c3,c4,c5⟩,i4⟩:=open_vec h4;obtain ⟨u5,⟨d0,d1,d2,d3,d4,d5⟩,i5⟩:=open_vec h5;subst e0 e1 a0 a1 a2 a3 a4 a5 b0 b1 b2 b3 b4 b5 c0 c1 c2 c3 c4 c5 d0 d1 d2 d3 d4 d5;exact ⟨⟨m0,m1,u2,u3,u4,u5⟩,rfl,⟨bounds_i64 w0,bounds_i64 w1,i2,i3,i4,i5⟩⟩
 obtain ⟨A,l,c,e,r,q,l1,l2⟩:=open_rows (cells:=TB.cells) (m:=26) (Q:=OkT) (bt:=208) (fun _=>rfl) (by omega) Tryz.underlying25 cells_tube (by kernel_rfl) (by omega) hEl h hw;exact ⟨A,l,c,e,r,q,l1,l2⟩
theorem open_tubesT {r:Reach} {b0:Nat} {W:World} {v:Value} {d:DataW H} {p:List MemPlace} (hv:Value.okWide Tryz.prog W r b0 25 v)
  (h:DataW.Trod enc Tryz.prog W 0 (fun _=>true) true 25 v d p) (hw:∀ n∈d.weights Tryz.prog 25,n≤reachBytes) :
  ∃ (A:Option Addr) (l:List TB) (c:Nat),v=.slice A l.length c∧SlT W W.heap.size A l c:=by
 obtain ⟨a,n,c,rfl⟩:=okWide_slice Tryz.underlying25 hv;obtain ⟨fuel,hf⟩:=h;exact open_tubes (y:=(d,p)) hf hw
end
end Go.Proofs.YtgnjhlnolihgcaaGreat
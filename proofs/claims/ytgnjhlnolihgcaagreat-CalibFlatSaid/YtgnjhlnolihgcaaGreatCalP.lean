import Derived.Test.YtgnjhlnolihgcaaGreatRegI
import Derived.Test.YtgnjhlnolihgcaaGreatCal4
import Derived.Test.YtgnjhlnolihgcaaGreatCal5
namespace Go.Proofs.YtgnjhlnolihgcaaGreat
open Go.RowKit
def zAt (E D:Int) (r b d f:List Int) (i:Nat):Int:=
 rndS (((r.getD i 0 - b.getD i 0) * D - d.getD i 0 * E) * sumP true f) (D * f.getD i 0 * cntP true f)
def bdAt (f:List Int) (i:Nat):Bool:=decide (f.getD i 0≤0)
def erAt (E D:Int) (r b d f:List Int) (i:Nat):Int:=if f.getD i 0≤0 then 0 else pixE (zAt E D r b d f i)
def pxAt (E D:Int) (r b d f:List Int) (i:Nat):Int:=if f.getD i 0≤0 then 0 else pixR (zAt E D r b d f i)
def bdL (f:List Int) (n:Nat):List Bool:=(List.range n).map (bdAt f)
def pxL (E D:Int) (r b d f:List Int) (n:Nat):List Int:=(List.range n).map (pxAt E D r b d f)
def erL (E D:Int) (r b d f:List Int) (n:Nat):Bool:=(List.range n).any fun i=>erAt E D r b d f i != 0
theorem bdL_len (f:List Int) (n:Nat):(bdL f n).length=n:=by simp [bdL]
theorem pxL_len (E D:Int) (r b d f:List Int) (n:Nat):(pxL E D r b d f n).length=n:=by simp [pxL]
theorem erL_hit {E D:Int} {r b d f:List Int} {n k:Nat} (hk:k < n) (h:erAt E D r b d f k≠0):erL E D r b d f n=true:=by
 unfold erL;rw [List.any_eq_true];exact ⟨k,List.mem_range.2 hk,by simpa using h⟩
theorem erL_none {E D:Int} {r b d f:List Int} {n:Nat} (h:∀ i,i < n→erAt E D r b d f i=0):erL E D r b d f n=false:=by
 unfold erL;rw [List.any_eq_false];intro i hi;rw [h i (List.mem_range.1 hi)];simp
theorem pixR_in (z:Int) : -4294967296≤pixR z∧pixR z≤4294967296:=by unfold pixR; split <;> omega
theorem pxAt_in (E D:Int) (r b d f:List Int) (i:Nat) : -4294967296≤pxAt E D r b d f i∧pxAt E D r b d f i≤4294967296:=by
 unfold pxAt;split
 ·omega
 ·exact pixR_in _
theorem pxL_in64 (E D:Int) (r b d f:List Int) (n:Nat):In64 (pxL E D r b d f n):=by
 intro x hx;obtain ⟨i,-,rfl⟩:=List.mem_map.1 hx;have:=pxAt_in E D r b d f i;omega
theorem blw5 (w:World) (a b c d e:Obj):Below w.heap.size w (((((w.alloc a).alloc b).alloc c).alloc d).alloc e):=
 q0a (q0a (q0a (q0a (blw1 _ _) (blw1 _ _)) (blw1 _ _)) (blw1 _ _)) (blw1 _ _)
structure ApOut where
 W:Int
 H:Int
 l:List Int
 bs:List Bool
 k:Int
def apOut (f1 f2 f3 f4:FD) (E D:Int):ApOut:=
 if vchk [f1,f2,f3,f4]≠0 then ⟨0,0,[],[],8⟩
 else if (aliB f1 f2 && aliB f1 f3 && aliB f1 f4 && decide (0≤E) && decide (E≤1000000) && decide (1≤D) && decide (D≤1000000))=false then ⟨0,0,[],[],2⟩
 else if cntP true f4.l=0 then ⟨0,0,[],[],18⟩
 else if erL E D f1.l f2.l f3.l f4.l f1.l.length=true then ⟨0,0,[],[],16⟩
 else ⟨f1.W,f1.H,pxL E D f1.l f2.l f3.l f4.l f1.l.length,bdL f4.l f1.l.length,0⟩
theorem vchk4 {f1 f2 f3 f4:FD} (h:f1.chk≠0∨f2.chk≠0∨f3.chk≠0∨f4.chk≠0):vchk [f1,f2,f3,f4]≠0:=by
 have e:vchk [f1,f2,f3,f4]=8:=by
  rcases h with h | h | h | h
  ·exact vchk_bad (f:=f1) (by simp) h
  ·exact vchk_bad (f:=f2) (by simp) h
  ·exact vchk_bad (f:=f3) (by simp) h
  ·exact vchk_bad (f:=f4) (by simp) h
 rw [e]; decide
theorem vchk40 {f1 f2 f3 f4:FD} (h1:f1.chk=0) (h2:f2.chk=0) (h3:f3.chk=0) (h4:f4.chk=0):vchk [f1,f2,f3,f4]=0:=
 vchk_good fun f hf=>by
  simp only [List.mem_cons,List.not_mem_nil,or_false] at hf;rcases hf with rfl | rfl | rfl | rfl <;> assumption
theorem apOut_8 {f1 f2 f3 f4:FD} {E D:Int} (h:f1.chk≠0∨f2.chk≠0∨f3.chk≠0∨f4.chk≠0):apOut f1 f2 f3 f4 E D=⟨0,0,[],[],8⟩:=if_pos (vchk4 h)
theorem apOut_2 {f1 f2 f3 f4:FD} {E D:Int} (h1:f1.chk=0) (h2:f2.chk=0) (h3:f3.chk=0) (h4:f4.chk=0)
  (h:aliB f1 f2=false∨aliB f1 f3=false∨aliB f1 f4=false∨E < 0∨1000000 < E∨D < 1∨1000000 < D):apOut f1 f2 f3 f4 E D=⟨0,0,[],[],2⟩:=by
 unfold apOut;rw [if_neg (by rw [vchk40 h1 h2 h3 h4]; simp),if_pos];rcases h with h | h | h | h | h | h | h
 ·rw [h]; simp
 ·rw [h]; simp
 ·rw [h]; simp
 ·rw [show decide (0≤E)=false from decide_eq_false (by omega)]; simp
 ·rw [show decide (E≤1000000)=false from decide_eq_false (by omega)]; simp
 ·rw [show decide (1≤D)=false from decide_eq_false (by omega)]; simp
 ·rw [show decide (D≤1000000)=false from decide_eq_false (by omega)]; simp
structure ApOk (f1 f2 f3 f4:FD) (E D:Int):Prop where
 c1:f1.chk=0
 c2:f2.chk=0
 c3:f3.chk=0
 c4:f4.chk=0
 a2:aliB f1 f2=true
 a3:aliB f1 f3=true
 a4:aliB f1 f4=true
 e0:0≤E
 e1:E≤1000000
 d0:1≤D
 d1:D≤1000000
theorem apOut_rest {f1 f2 f3 f4:FD} {E D:Int} (h:ApOk f1 f2 f3 f4 E D):apOut f1 f2 f3 f4 E D =
  if cntP true f4.l=0 then ⟨0,0,[],[],18⟩
  else if erL E D f1.l f2.l f3.l f4.l f1.l.length=true then ⟨0,0,[],[],16⟩
  else ⟨f1.W,f1.H,pxL E D f1.l f2.l f3.l f4.l f1.l.length,bdL f4.l f1.l.length,0⟩:=by
 unfold apOut;rw [if_neg (by rw [vchk40 h.c1 h.c2 h.c3 h.c4]; simp),if_neg];rw [h.a2,h.a3,h.a4,decide_eq_true h.e0,decide_eq_true h.e1,decide_eq_true h.d0,decide_eq_true h.d1];simp
theorem fchk_facts {f:FD} (h:f.chk=0):(1≤f.W∧f.W≤100)∧(1≤f.H∧f.H≤100)∧(f.l.length:Int)=f.W * f.H∧∀ x∈f.l,-4294967296≤x∧x≤4294967296:=by
 unfold FD.chk fchk at h;split at h
 ·next e=>exact okF_iff.1 e
 ·cases h
theorem q1g {f:FD} (h:f.chk=0):(∀ x∈f.l,-4294967296≤x∧x≤4294967296)∧f.l.length≤10000:=by
 obtain ⟨h1,h2,h3,h4⟩:=fchk_facts h;have:=side_mul h1.1 h1.2 h2.1 h2.2;exact ⟨h4,by omega⟩
theorem ali_len {f g:FD} (h1:f.chk=0) (h2:g.chk=0) (h:aliB f g=true):g.l.length=f.l.length:=by
 obtain ⟨-,-,e1,-⟩:=fchk_facts h1;obtain ⟨-,-,e2,-⟩:=fchk_facts h2;unfold aliB at h;rw [Bool.and_eq_true,decide_eq_true_eq,decide_eq_true_eq] at h;rw [h.1,h.2] at e1;omega
def ApR (o:ApOut) (w:World) (e:Ending) (w':World):Prop:=
 ∃ A c A2 c2,e=.returned (.tuple #[.agg #[.int .i64 o.W,.int .i64 o.H,.slice A o.l.length c],.slice A2 o.bs.length c2,.int .i64 o.k])∧SlI w' w'.heap.size A o.l c∧SlO w' w'.heap.size A2 o.bs c2∧Below w.heap.size w w'
theorem apR_err {k:Int} {w w':World} {e:Ending} (he:e=.returned (.tuple #[.agg #[.int .i64 0,.int .i64 0,.slice none 0 0],.slice none 0 0,.int .i64 k])) (hb:Below w.heap.size w w'):ApR ⟨0,0,[],[],k⟩ w e w':=
 ⟨none,0,none,0,he,SlI.nil _ _ _ _,SlO.nil _ _ _ _,hb⟩
structure RI (wy wr:World) (W H:Int) (v vb:Value) (l:List Int) (bs:List Bool):Prop where
 hb:Below wy.heap.size wy wr
 kx:BlkV wr wy.heap.size 53 #[.int .i64 W,.int .i64 H,v]
 ow:OwV wr (wy.heap.size+1) 2 v (cI l)
 ob:OwV wr (wy.heap.size+1) 4 vb (cB bs)
section
variable {wy wr w1:World} {W H:Int} {v vb v':Value} {l:List Int} {bs:List Bool}
theorem RI.call (h:RI wy wr W H v vb l bs) (hb:Below wr.heap.size wr w1):RI wy w1 W H v vb l bs:=
 ⟨q0a h.hb hb,h.kx.keep hb,h.ow.below hb (Nat.le_refl _),h.ob.below hb (Nat.le_refl _)⟩
theorem RI.lt (h:RI wy wr W H v vb l bs):wy.heap.size < wr.heap.size:=h.kx.lt
end
theorem sumP_pos {l:List Int} (h:cntP true l≠0):0 < sumP true l:=by
 induction l with
 | nil=>exact absurd rfl h
 | cons x t ih=>
  unfold sumP cntP at *;rw [List.filter_cons] at h ⊢;split
  ·next hx=>
   have hx:0 < x:=(by simpa [selP] using hx);rw [List.foldr_cons];by_cases h0:t.filter (selP true)=[]
   ·rw [h0]; simp; omega
   ·have h1:0 < (t.filter (selP true)).length:=List.length_pos_iff.2 h0;have:=ih (by omega); omega
  ·next hx=>rw [if_neg hx] at h; exact ih h
structure B5 (w w1:World) (B:Nat) (f1 f2 f3 f4:FD):Prop where
 k0:BlkV w1 (w.heap.size) 53 #[.int .i64 f1.W,.int .i64 f1.H,.slice f1.A f1.l.length f1.c]
 k1:BlkV w1 (w.heap.size+1) 53 #[.int .i64 f2.W,.int .i64 f2.H,.slice f2.A f2.l.length f2.c]
 k2:BlkV w1 (w.heap.size+2) 53 #[.int .i64 f3.W,.int .i64 f3.H,.slice f3.A f3.l.length f3.c]
 k3:BlkV w1 (w.heap.size+3) 53 #[.int .i64 f4.W,.int .i64 f4.H,.slice f4.A f4.l.length f4.c]
 k4:BlkV w1 (w.heap.size+4) 53 #[.int .i64 0,.int .i64 0,.slice none 0 0]
 hb:Below w.heap.size w w1
 o1:OkD w1 B f1
 o2:OkD w1 B f2
 o3:OkD w1 B f3
 o4:OkD w1 B f4
section
variable {w w1 w2:World} {B:Nat} {f1 f2 f3 f4:FD}
theorem B5.start (h1:OkD w B f1) (h2:OkD w B f2) (h3:OkD w B f3) (h4:OkD w B f4):B5 w (((((w.alloc (.cells #[.int .i64 f1.W,.int .i64 f1.H,.slice f1.A f1.l.length f1.c] 53)).alloc (.cells #[.int .i64 f2.W,.int .i64 f2.H,.slice f2.A f2.l.length f2.c] 53)).alloc (.cells #[.int .i64 f3.W,.int .i64 f3.H,.slice f3.A f3.l.length f3.c] 53)).alloc (.cells #[.int .i64 f4.W,.int .i64 f4.H,.slice f4.A f4.l.length f4.c] 53)).alloc (.cells #[.int .i64 0,.int .i64 0,.slice none 0 0] 53)) B f1 f2 f3 f4:=
 ⟨((((BlkV.fresh (by simp) _ _).alloc _).alloc _).alloc _).alloc _,(((BlkV.fresh (by simp) _ _).alloc _).alloc _).alloc _,((BlkV.fresh (by simp) _ _).alloc _).alloc _,(BlkV.fresh (by simp) _ _).alloc _,BlkV.fresh (by simp) _ _,blw5 _ _ _ _ _ _,h1.below (blw5 _ _ _ _ _ _),h2.below (blw5 _ _ _ _ _ _),h3.below (blw5 _ _ _ _ _ _),h4.below (blw5 _ _ _ _ _ _)⟩
theorem B5.carry (h:B5 w w1 B f1 f2 f3 f4) (hb:Below w1.heap.size w1 w2):B5 w w2 B f1 f2 f3 f4:=
 ⟨h.k0.keep hb,h.k1.keep hb,h.k2.keep hb,h.k3.keep hb,h.k4.keep hb,q0a h.hb hb,h.o1.below hb,h.o2.below hb,h.o3.below hb,h.o4.below hb⟩
theorem B5.cells (h:B5 w w1 B f1 f2 f3 f4):w1.cell? ⟨w.heap.size,0,none⟩=some (.int .i64 f1.W)∧w1.cell? ⟨w.heap.size,1,none⟩=some (.int .i64 f1.H)∧w1.cell? ⟨w.heap.size,2,none⟩=some (.slice f1.A f1.l.length f1.c)∧w1.cell? ⟨w.heap.size+1,0,none⟩=some (.int .i64 f2.W)∧w1.cell? ⟨w.heap.size+1,1,none⟩=some (.int .i64 f2.H)∧w1.cell? ⟨w.heap.size+1,2,none⟩=some (.slice f2.A f2.l.length f2.c)∧w1.cell? ⟨w.heap.size+2,0,none⟩=some (.int .i64 f3.W)∧w1.cell? ⟨w.heap.size+2,1,none⟩=some (.int .i64 f3.H)∧w1.cell? ⟨w.heap.size+2,2,none⟩=some (.slice f3.A f3.l.length f3.c)∧w1.cell? ⟨w.heap.size+3,0,none⟩=some (.int .i64 f4.W)∧w1.cell? ⟨w.heap.size+3,1,none⟩=some (.int .i64 f4.H)∧w1.cell? ⟨w.heap.size+3,2,none⟩=some (.slice f4.A f4.l.length f4.c):=
 ⟨h.k0.at_ 0 rfl,h.k0.at_ 1 rfl,h.k0.at_ 2 rfl,h.k1.at_ 0 rfl,h.k1.at_ 1 rfl,h.k1.at_ 2 rfl,h.k2.at_ 0 rfl,h.k2.at_ 1 rfl,h.k2.at_ 2 rfl,h.k3.at_ 0 rfl,h.k3.at_ 1 rfl,h.k3.at_ 2 rfl⟩
theorem B5.outs (h:B5 w w1 B f1 f2 f3 f4):w1.cell? ⟨w.heap.size+4,0,none⟩=some (.int .i64 0)∧w1.cell? ⟨w.heap.size+4,1,none⟩=some (.int .i64 0)∧w1.cell? ⟨w.heap.size+4,2,none⟩=some (.slice none 0 0)∧w1.frozen? ⟨w.heap.size+4,0,none⟩=false∧w1.frozen? ⟨w.heap.size+4,1,none⟩=false∧w1.frozen? ⟨w.heap.size+4,2,none⟩=false:=
 ⟨h.k4.at_ 0 rfl,h.k4.at_ 1 rfl,h.k4.at_ 2 rfl,h.k4.frozen 0,h.k4.frozen 1,h.k4.frozen 2⟩
theorem B5.fin (h:B5 w w1 B f1 f2 f3 f4) (a b c:Value):Below w.heap.size w (((w1.setCell ⟨w.heap.size+4,0,none⟩ a).setCell ⟨w.heap.size+4,1,none⟩ b).setCell ⟨w.heap.size+4,2,none⟩ c):=
 Below.setCell (Below.setCell (Below.setCell h.hb (p:=⟨w.heap.size+4,0,none⟩) (Nat.le_add_right _ _) a) (p:=⟨w.heap.size+4,1,none⟩) (Nat.le_add_right _ _) b) (p:=⟨w.heap.size+4,2,none⟩) (Nat.le_add_right _ _) c
theorem B5.lts (h:B5 w w1 B f1 f2 f3 f4):w.heap.size < w1.heap.size∧w.heap.size+1 < w1.heap.size∧w.heap.size+2 < w1.heap.size∧w.heap.size+3 < w1.heap.size∧w.heap.size+4 < w1.heap.size:=⟨h.k0.lt,h.k1.lt,h.k2.lt,h.k3.lt,h.k4.lt⟩
end
end Go.Proofs.YtgnjhlnolihgcaaGreat
import Derived.Test.YtgnjhlnolihgcaaGreatRegI
import Derived.Test.YtgnjhlnolihgcaaGreatCalP
import Derived.Deep.RegionHeld3
namespace Go.Proofs.YtgnjhlnolihgcaaGreat
open Go.RowKit
attribute [local go_sem ↓] Go.wp_at_zero Go.wp_at_succ
theorem getD_bd {l:List Int} (h:∀ x∈l,-4294967296≤x∧x≤4294967296) (k:Nat) : -4294967296≤l.getD k 0∧l.getD k 0≤4294967296:=by
 rw [List.getD_eq_getElem?_getD];rcases Nat.lt_or_ge k l.length with hk | hk
 ·rw [List.getElem?_eq_getElem hk]; exact h _ (List.getElem_mem hk)
 ·rw [List.getElem?_eq_none hk]; decide
theorem SlI.atD {w:World} {B:Nat} {A:Option Addr} {l:List Int} {c k:Nat} (h:SlI w B A l c) (hk:k < l.length):∃ b o,A=some ⟨b,o,none⟩∧b < B∧w.cell? ⟨b,o+k,none⟩=some (.int .i64 (l.getD k 0)):=by
 obtain ⟨b,o,e,hb,hc⟩:=h.at_ hk;exact ⟨b,o,e,hb,by rw [hc,List.getD_eq_getElem?_getD,List.getElem?_eq_getElem hk]; rfl⟩
end Go.Proofs.YtgnjhlnolihgcaaGreat
namespace Go.Proofs.YtgnjhlnolihgcaaGreat
open Go.RowKit
theorem run_makeV {P:Program} (t e:TypeId) (i:TypeInfo) (z:Value) (nb:Nat) (ht:P.underlying t=some (.slice e)) (hi:P.info? e=some i) (hz:i.zero=some z) (hzc:z.cells=#[z]) (hsize:i.size=1) (hby:i.bytes=nb)
  (L C:Int) (n:Nat) (hL:L=n) (hC:C=n) (hnb:nb * n≤140737488355328) (hb:n≤17592186044416) (w:World) :
  (Instr.makeSlice t (.int .i64 L) (.int .i64 C)).run P w=.ok (.slice (some ⟨w.heap.size,0,none⟩) n n) (w.alloc (.cells (Array.replicate n z) e)):=by
 subst hL;subst hC;have hr:=run_make (P:=P) w t e i z ht hi hz .i64 .i64 n n (by omega) (by omega) (by rw [hby]; have h:=Int.ofNat_le.2 hnb; rw [Int.natCast_mul] at h; omega) (by omega);rw [hr,hsize];simp only [Int.toNat_natCast,Nat.mul_one];congr 3
 simp [madeCells,hzc,Array.ext_iff,Nat.mod_one]
def fl {α:Type} (f:Nat→α) (z:α) (n k:Nat):List α:=(List.range k).map f ++ List.replicate (n - k) z
section
variable {α:Type} {f:Nat→α} {z:α} {n k:Nat}
theorem fl_zero:fl f z n 0=List.replicate n z:=by simp [fl]
theorem fl_full:fl f z n n=(List.range n).map f:=by simp [fl]
theorem fl_succ:fl f z n (k+1)=(List.range k).map f ++ f k :: List.replicate (n - (k+1)) z:=by simp [fl,List.range_succ]
theorem fl_set (h:k < n):(fl f z n k).set k (f k)=fl f z n (k+1):=by
 rw [fl_succ];unfold fl;rw [List.set_append_right _ _ (by simp),show n - k=(n - (k+1))+1 by omega,List.replicate_succ];simp
theorem fl_skip (h:k < n) (hz:f k=z):fl f z n k=fl f z n (k+1):=by
 rw [fl_succ,hz];unfold fl;rw [show n - k=(n - (k+1))+1 by omega,List.replicate_succ]
end
theorem erL_succ (E D:Int) (r b d f:List Int) (k:Nat):erL E D r b d f (k+1)=(erL E D r b d f k || erAt E D r b d f k != 0):=by
 unfold erL;rw [List.range_succ,List.any_append];simp
def pvAt (E D:Int) (r b d f:List Int) (i:Nat):Int:=if f.getD i 0≤0 then 0 else pixV (zAt E D r b d f i)
def stK (E D:Int) (r b d f:List Int) (k:Nat):Int:=if erL E D r b d f k=true then 16 else 0
theorem stK_bad {E D:Int} {r b d f:List Int} {k:Nat} (h:f.getD k 0≤0):stK E D r b d f (k+1)=stK E D r b d f k:=by
 unfold stK;rw [erL_succ,show erAt E D r b d f k=0 from if_pos h];simp
theorem stK_good {E D:Int} {r b d f:List Int} {k:Nat} (h:¬ f.getD k 0≤0):stK E D r b d f (k+1)=nte (stK E D r b d f k) (pixE (zAt E D r b d f k)):=by
 unfold stK nte;rw [erL_succ,show erAt E D r b d f k=pixE (zAt E D r b d f k) from if_neg h];cases erL E D r b d f k
 ·unfold pixE;split <;> simp
 ·simp
theorem pvL_eq {E D:Int} {r b d f:List Int} {n:Nat} (h:erL E D r b d f n=false):fl (pvAt E D r b d f) 0 n n=pxL E D r b d f n:=by
 rw [fl_full];unfold pxL;refine List.map_congr_left fun i hi=>?_;have hi:=List.mem_range.1 hi;unfold pvAt pxAt;split
 ·rfl
 ·next h0=>
  unfold erL at h;rw [List.any_eq_false] at h;have h1:=h i (List.mem_range.2 hi);rw [show erAt E D r b d f i=pixE (zAt E D r b d f i) from if_neg h0] at h1;unfold pixE at h1;split at h1
  ·next h2=>rw [pixV,if_pos (by omega),pixR,if_pos h2]
  ·simp at h1
theorem flB_full (f:List Int) (n:Nat):fl (bdAt f) false n n=bdL f n:=fl_full
theorem cell_blk {w w':World} {a:Addr} {v:Value} (h:w'.heap[a.block]? = w.heap[a.block]?) (hc:w.cell? a=some v):w'.cell? a=some v:=by
 unfold World.cell? at hc ⊢;rw [h]; exact hc
theorem BlkV.cast_ {w:World} {g:Nat} {t:TypeId} {cs cs':Array Value} (h:BlkV w g t cs) (e:cs=cs'):BlkV w g t cs':=e ▸ h
theorem World.cell?_set_at {w:World} {p:Addr} {v:Value} (h:w.cell? p=some v) (u:Value):(w.setCell p u).cell? p=some u:=World.cell?_setCell_same _ _ _ h
theorem fl_atB {f:Nat→Bool} {n k:Nat} (h:k < n):(cB (fl f false n k)).toArray[k]? = some (.bool false):=by
 simp [cB,fl,List.getElem?_append,List.getElem?_replicate]; omega
theorem fl_atI {f:Nat→Int} {n k:Nat} (h:k < n):(cI (fl f 0 n k)).toArray[k]? = some (.int .i64 0):=by
 simp [cI,fl,List.getElem?_append,List.getElem?_replicate]; omega
structure PJ (w wy wr:World) (gc gP gB:Nat) (x:Int) (l:List Int) (bs:List Bool):Prop where
 hb:Below w.heap.size w wr
 sz:wy.heap.size≤wr.heap.size
 keep:∀ g,g < wy.heap.size→g≠gc→g≠gP→g≠gB→wr.heap[g]? = wy.heap[g]?
 yc:∃ x',BlkV wy gc 107 #[.int .i64 x']
 yP:∃ l',BlkV wy gP 2 (cI l').toArray
 yB:∃ b',BlkV wy gB 4 (cB b').toArray
 kc:BlkV wr gc 107 #[.int .i64 x]
 kP:BlkV wr gP 2 (cI l).toArray
 kB:BlkV wr gB 4 (cB bs).toArray
 lc:w.heap.size≤gc
 lP:w.heap.size≤gP
 lB:w.heap.size≤gB
section
variable {w wy wr w1:World} {gc gP gB:Nat} {x:Int} {l:List Int} {bs:List Bool}
theorem PJ.start (hb:Below w.heap.size w wy) (kc:BlkV wy gc 107 #[.int .i64 x]) (kP:BlkV wy gP 2 (cI l).toArray) (kB:BlkV wy gB 4 (cB bs).toArray) (lc:w.heap.size≤gc) (lP:w.heap.size≤gP) (lB:w.heap.size≤gB):PJ w wy wy gc gP gB x l bs:=
 ⟨hb,Nat.le_refl _,fun _ _ _ _ _=>rfl,⟨x,kc⟩,⟨l,kP⟩,⟨bs,kB⟩,kc,kP,kB,lc,lP,lB⟩
theorem PJ.blk (h:PJ w wy wr gc gP gB x l bs) {g:Nat} {t:TypeId} {cs:Array Value} (k:BlkV wy g t cs) (h1:t ≠ 107) (h2:t ≠ 2) (h3:t ≠ 4):BlkV wr g t cs:=by
 obtain ⟨_,yc⟩:=h.yc;obtain ⟨_,yP⟩:=h.yP;obtain ⟨_,yB⟩:=h.yB;exact (h.keep g k.lt (k.ne_ yc h1) (k.ne_ yP h2) (k.ne_ yB h3)).trans k
theorem PJ.sl (h:PJ w wy wr gc gP gB x l bs) {A:Option Addr} {q:List Nat} {c:Nat} (s:Sl wy A q c):Sl wr A q c:=by
 refine ⟨fun hl=>?_,s.lim,s.le,s.len⟩;obtain ⟨b,o,e,hc⟩:=s.rd hl;refine ⟨b,o,e,fun i hi=>?_⟩;have h1:=hc i hi;obtain ⟨_,yc⟩:=h.yc;obtain ⟨l',yP⟩:=h.yP;obtain ⟨b',yB⟩:=h.yB;refine cell_blk (a:=⟨b,o+i,none⟩) (h.keep b (lt_of_cell h1) ?_ ?_ ?_) h1
 ·rintro rfl;rw [yc.cell] at h1;rcases Nat.eq_zero_or_pos (o+i) with h0 | h0
  ·rw [h0] at h1; simp at h1
  ·rw [Array.getElem?_eq_none (by simp; omega)] at h1; cases h1
 ·rintro rfl;rw [yP.cell] at h1;have h2:(cI l')[o+i]? = some (.int .u32 (q[i]?.getD 0)):=(by simpa using h1);obtain ⟨_,_,e3⟩:=List.mem_map.1 (List.mem_of_getElem? h2);cases e3
 ·rintro rfl;rw [yB.cell] at h1;have h2:(cB b')[o+i]? = some (.int .u32 (q[i]?.getD 0)):=(by simpa using h1);obtain ⟨_,_,e3⟩:=List.mem_map.1 (List.mem_of_getElem? h2);cases e3
theorem PJ.call (h:PJ w wy wr gc gP gB x l bs) (hb:Below wr.heap.size wr w1):PJ w wy w1 gc gP gB x l bs:=
 ⟨q0a h.hb hb,Nat.le_trans h.sz hb.size,fun g h0 h1 h2 h3=>(hb.block g (Nat.lt_of_lt_of_le h0 h.sz)).trans (h.keep g h0 h1 h2 h3),h.yc,h.yP,h.yB,h.kc.keep hb,h.kP.keep hb,h.kB.keep hb,h.lc,h.lP,h.lB⟩
theorem PJ.nPB (h:PJ w wy wr gc gP gB x l bs):gP≠gB:=h.kP.ne_ h.kB (by decide)
theorem PJ.ncP (h:PJ w wy wr gc gP gB x l bs):gc≠gP:=h.kc.ne_ h.kP (by decide)
theorem PJ.ncB (h:PJ w wy wr gc gP gB x l bs):gc≠gB:=h.kc.ne_ h.kB (by decide)
theorem PJ.st (h:PJ w wy wr gc gP gB x l bs) {x':Int} (s:St gc x x' wr w1):PJ w wy w1 gc gP gB x' l bs:=
 ⟨⟨s.but.os.trans h.hb.os,s.but.tape.trans h.hb.tape,s.but.output.trans h.hb.output,Nat.le_trans h.hb.size s.but.size,fun k hk=>(s.but.block k (Nat.lt_of_lt_of_le hk h.hb.size) (by have:=h.lc; omega)).trans (h.hb.block k hk)⟩,
  Nat.le_trans h.sz s.but.size,fun g h0 h1 h2 h3=>(s.but.block g (Nat.lt_of_lt_of_le h0 h.sz) h1).trans (h.keep g h0 h1 h2 h3),h.yc,h.yP,h.yB,s.cell,h.kP.but s.but h.ncP.symm,h.kB.but s.but h.ncB.symm,h.lc,h.lP,h.lB⟩
theorem PJ.setB (h:PJ w wy wr gc gP gB x l bs) (i:Nat) (b:Bool):PJ w wy (wr.setCell ⟨gB,i,none⟩ (.bool b)) gc gP gB x l (bs.set i b):=
 ⟨h.hb.setCell (p:=⟨gB,i,none⟩) h.lB _,by simpa using h.sz,fun g h0 h1 h2 h3=>(Below.heap_setCell wr ⟨gB,i,none⟩ _ g h3).trans (h.keep g h0 h1 h2 h3),h.yc,h.yP,h.yB,h.kc.far h.ncB _,h.kP.far h.nPB _,h.kB.put i _ (by simp [cB,List.map_set]),h.lc,h.lP,h.lB⟩
theorem PJ.setP (h:PJ w wy wr gc gP gB x l bs) (i:Nat) (y:Int):PJ w wy (wr.setCell ⟨gP,i,none⟩ (.int .i64 y)) gc gP gB x (l.set i y) bs:=
 ⟨h.hb.setCell (p:=⟨gP,i,none⟩) h.lP _,by simpa using h.sz,fun g h0 h1 h2 h3=>(Below.heap_setCell wr ⟨gP,i,none⟩ _ g h2).trans (h.keep g h0 h1 h2 h3),h.yc,h.yP,h.yB,h.kc.far h.ncP _,h.kP.put i _ (by simp [cI,List.map_set]),h.kB.far h.nPB.symm _,h.lc,h.lP,h.lB⟩
theorem pi_end {W H:Int} {n g:Nat} {cs:Array Value} (h:PJ w wy wr gc gP gB x l bs) (hl:l.length=n) (hb:bs.length=n) (hin:In64 l) (hn:n≤10000)
  (hg:BlkV wy g 53 cs) (hwg:w.heap.size≤g) (a b c:Value) :
  ApR ⟨W,H,l,bs,0⟩ w (.returned (.tuple #[.agg #[.int .i64 W,.int .i64 H,.slice (some ⟨gP,0,none⟩) n n],.slice (some ⟨gB,0,none⟩) n n,.int .i64 0])) (((wr.setCell ⟨g,0,none⟩ a).setCell ⟨g,1,none⟩ b).setCell ⟨g,2,none⟩ c):=by
 have hgw:=h.blk hg (by decide) (by decide) (by decide);have nP:gP≠g:=(hgw.ne_ h.kP (by decide)).symm;have nB:gB≠g:=(hgw.ne_ h.kB (by decide)).symm;have h1:=((h.kP.far (p:=⟨g,0,none⟩) nP a).far (p:=⟨g,1,none⟩) nP b).far (p:=⟨g,2,none⟩) nP c;have h2:=((h.kB.far (p:=⟨g,0,none⟩) nB a).far (p:=⟨g,1,none⟩) nB b).far (p:=⟨g,2,none⟩) nB c;subst hl;refine ⟨_,_,_,_,by rw [hb],⟨(RdV.of_blk h1).here,hin,Nat.le_refl _,by show l.length≤_; omega⟩,⟨(RdV.of_blk h2).here,by show bs.length≤_; omega,by show bs.length≤_; omega⟩,?_⟩;exact ((h.hb.setCell (p:=⟨g,0,none⟩) hwg a).setCell (p:=⟨g,1,none⟩) hwg b).setCell (p:=⟨g,2,none⟩) hwg c
end
end Go.Proofs.YtgnjhlnolihgcaaGreat
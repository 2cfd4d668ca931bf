import Derived.Test.YtgnjhlnolihgcaaGreatMem
namespace Go.Proofs.YtgnjhlnolihgcaaGreat
open Go.RowKit
def BlkV (w:World) (g:Nat) (t:TypeId) (cs:Array Value):Prop:=w.heap[g]? = some (.cells cs t (0,0))
section
variable {w w' w1:World} {g g':Nat} {t t':TypeId} {cs cs':Array Value}
theorem BlkV.lt (h:BlkV w g t cs):g < w.heap.size:=lt_of_block h
theorem BlkV.cell (h:BlkV w g t cs) (i:Nat):w.cell? ⟨g,i,none⟩=cs[i]?:=cell_of_row w g i cs t (0,0) h
theorem BlkV.at_ (h:BlkV w g t cs) (i:Nat) {v:Value} (hv:cs[i]? = some v):w.cell? ⟨g,i,none⟩=some v:=(h.cell i).trans hv
theorem BlkV.frozen (h:BlkV w g t cs) (i:Nat):w.frozen? ⟨g,i,none⟩=false:=by
 unfold BlkV at h;simp [World.frozen?,h]
theorem BlkV.fresh (hg:g=w.heap.size) (t:TypeId) (cs:Array Value):BlkV (w.alloc (.cells cs t)) g t cs:=by subst hg; exact heap_alloc_new w _
theorem BlkV.drew (h:BlkV w g t cs):BlkV w.drew g t cs:=h
theorem BlkV.alloc (h:BlkV w g t cs) (o:Obj):BlkV (w.alloc o) g t cs:=(Below.heap_alloc w o g h.lt).trans h
theorem BlkV.set_ (h:BlkV w g t cs) (i:Nat) (u:Value):BlkV (w.setCell ⟨g,i,none⟩ u) g t (cs.setIfInBounds i u):=by
 unfold BlkV at h ⊢;simp [World.setCell,Array.getElem?_modify,h]
theorem BlkV.put (h:BlkV w g t cs) (i:Nat) (u:Value) (he:cs.setIfInBounds i u=cs'):BlkV (w.setCell ⟨g,i,none⟩ u) g t cs':=he ▸ h.set_ i u
theorem BlkV.far (h:BlkV w g t cs) {p:Addr} (hp:g≠p.block) (u:Value):BlkV (w.setCell p u) g t cs:=(Below.heap_setCell w p u g hp).trans h
theorem BlkV.keep (h:BlkV w g t cs) (hb:Below w.heap.size w w'):BlkV w' g t cs:=(hb.block g h.lt).trans h
theorem BlkV.below {B:Nat} (h:BlkV w g t cs) (hb:Below B w w') (hg:g < B):BlkV w' g t cs:=(hb.block g hg).trans h
theorem BlkV.grown {row:Option Nat} (h:BlkV w g t cs) (hb:w.grownBy w' row) (hg:some g≠row):BlkV w' g t cs:=(hb.block g h.lt hg).trans h
theorem BlkV.ne_ (h:BlkV w g t cs) (h':BlkV w g' t' cs') (hne:t≠t'):g≠g':=by
 rintro rfl;unfold BlkV at h h';rw [h] at h';injection h' with h'
 injection h' with _ ht
 exact hne ht
end
def RdV (w:World) (B:Nat) (A:Option Addr) (vs:List Value):Prop:=
 0 < vs.length→∃ b o,A=some ⟨b,o,none⟩∧b < B∧∀ i v,vs[i]? = some v→w.cell? ⟨b,o+i,none⟩=some v
section
variable {w w':World} {B B':Nat} {A:Option Addr} {vs:List Value}
theorem RdV.keep_ (h:RdV w B A vs) (hk:∀ p:Addr,p.block < B→w'.cell? p=w.cell? p):RdV w' B A vs:=fun hl=>by
 obtain ⟨b,o,e,hb,hc⟩:=h hl;exact ⟨b,o,e,hb,fun i v hv=>(hk _ hb).trans (hc i v hv)⟩
theorem RdV.lt (h:RdV w B A vs) (hl:0 < vs.length):∃ b o,A=some ⟨b,o,none⟩∧b < w.heap.size:=by
 obtain ⟨b,o,e,hb,hc⟩:=h hl;exact ⟨b,o,e,lt_of_cell (hc 0 _ (List.getElem?_eq_getElem hl))⟩
theorem RdV.low (h:RdV w B A vs):RdV w (min B w.heap.size) A vs:=fun hl=>by
 obtain ⟨b,o,e,hb,hc⟩:=h hl;exact ⟨b,o,e,by have:=lt_of_cell (hc 0 _ (List.getElem?_eq_getElem hl)); simp at this; omega,hc⟩
theorem RdV.more (h:RdV w B A vs) (hB:B≤B'):RdV w B' A vs:=fun hl=>by
 obtain ⟨b,o,e,hb,hc⟩:=h hl;exact ⟨b,o,e,by omega,hc⟩
theorem RdV.here (h:RdV w B A vs):RdV w w.heap.size A vs:=fun hl=>by
 obtain ⟨b,o,e,hb,hc⟩:=h hl;exact ⟨b,o,e,by have:=lt_of_cell (hc 0 _ (List.getElem?_eq_getElem hl)); simpa using this,hc⟩
theorem RdV.below (h:RdV w B A vs) (hb:Below w.heap.size w w'):RdV w' B A vs:=fun hl=>by
 obtain ⟨b,o,e,hB,hc⟩:=h hl;exact ⟨b,o,e,hB,fun i v hv=>q0b hb (hc i v hv)⟩
theorem RdV.alloc (h:RdV w B A vs) (o:Obj):RdV (w.alloc o) B A vs:=h.below ((Below.refl _ w).alloc (Nat.le_refl _) o)
theorem RdV.drew (h:RdV w B A vs):RdV w.drew B A vs:=h
theorem RdV.set_ (h:RdV w B A vs) {p:Addr} (hp:B≤p.block) (u:Value):RdV (w.setCell p u) B A vs:=
 h.keep_ fun q hq=>World.cell?_setCell_other w p q u (fun e=>by subst e; omega)
theorem RdV.nil (w:World) (B:Nat) (A:Option Addr):RdV w B A []:=fun h=>by simp at h
theorem RdV.at_ (h:RdV w B A vs) {k:Nat} (hk:k < vs.length):∃ b o,A=some ⟨b,o,none⟩∧b < B∧w.cell? ⟨b,o+k,none⟩=some (vs[k]'hk):=by
 obtain ⟨b,o,e,hB,hc⟩:=h (by omega);exact ⟨b,o,e,hB,hc k _ (List.getElem?_eq_getElem hk)⟩
theorem RdV.of_blk {g:Nat} {t:TypeId} (h:BlkV w g t vs.toArray):RdV w (g+1) (some ⟨g,0,none⟩) vs:=fun _=>⟨g,0,rfl,Nat.lt_succ_self g,fun i v hv=>by rw [Nat.zero_add,h.cell]; simpa using hv⟩
theorem RdV.of_own {base:Nat} {e:TypeId} {n c:Nat} (h:w.ownsRow base e 1 (.slice A n c) n vs):RdV w w.heap.size A vs:=fun hl=>by
 have hn:0 < n:=(by have:=h.1; omega);obtain ⟨g,cap,hv,_,hlt⟩:=h.form hn;have hA:A=some ⟨g,0,none⟩:=(by injection hv);subst hA;refine ⟨g,0,rfl,hlt,fun i v hv=>?_⟩;have:=h.cells (g:=g) rfl i v hv;unfold Addr.add at this;split at this
 ·next h0=>subst h0; simpa using this
 ·simpa using this
end
def cI (l:List Int):List Value:=l.map (Value.int .i64)
theorem q0p (l:List Int):(cI l).length=l.length:=by simp [cI]
theorem cI_get {l:List Int} {i:Nat} (hi:i < l.length):(cI l)[i]? = some (.int .i64 (l[i]'hi)):=by simp [cI,List.getElem?_eq_getElem hi]
theorem cI_one {l:List Int} : ∀ u∈cI l,u.oneCell'=true:=by
 intro u hu;obtain ⟨x,_,rfl⟩:=List.mem_map.1 hu;rfl
def In64 (l:List Int):Prop:=∀ x∈l,-9223372036854775808≤x∧x≤9223372036854775807
theorem In64.at_ {l:List Int} (h:In64 l) {k:Nat} (hk:k < l.length) : -9223372036854775808≤l[k]'hk∧l[k]'hk≤9223372036854775807:=h _ (List.getElem_mem hk)
structure SlI (w:World) (B:Nat) (A:Option Addr) (l:List Int) (c:Nat):Prop where
 rd:RdV w B A (cI l)
 lim:In64 l
 le:l.length≤c
 len:l.length≤17592186044416
section
variable {w w':World} {B B':Nat} {A:Option Addr} {l:List Int} {c:Nat}
theorem SlI.below (h:SlI w B A l c) (hb:Below w.heap.size w w'):SlI w' B A l c:=⟨h.rd.below hb,h.lim,h.le,h.len⟩
theorem SlI.alloc (h:SlI w B A l c) (o:Obj):SlI (w.alloc o) B A l c:=⟨h.rd.alloc o,h.lim,h.le,h.len⟩
theorem SlI.drew (h:SlI w B A l c):SlI w.drew B A l c:=⟨h.rd,h.lim,h.le,h.len⟩
theorem SlI.set_ (h:SlI w B A l c) {p:Addr} (hp:B≤p.block) (u:Value):SlI (w.setCell p u) B A l c:=⟨h.rd.set_ hp u,h.lim,h.le,h.len⟩
theorem SlI.more (h:SlI w B A l c) (hB:B≤B'):SlI w B' A l c:=⟨h.rd.more hB,h.lim,h.le,h.len⟩
theorem SlI.here (h:SlI w B A l c):SlI w w.heap.size A l c:=⟨h.rd.here,h.lim,h.le,h.len⟩
theorem SlI.nil (w:World) (B:Nat) (A:Option Addr) (c:Nat):SlI w B A [] c:=⟨RdV.nil _ _ _,(fun x h=>by cases h),Nat.zero_le _,Nat.zero_le _⟩
theorem SlI.at_ (h:SlI w B A l c) {k:Nat} (hk:k < l.length):∃ b o,A=some ⟨b,o,none⟩∧b < B∧w.cell? ⟨b,o+k,none⟩=some (.int .i64 (l[k]'hk)):=by
 obtain ⟨b,o,e,hB,hc⟩:=h.rd.at_ (k:=k) (by rw [q0p]; exact hk);exact ⟨b,o,e,hB,hc.trans (by simp [cI])⟩
end
def OwV (w:World) (base:Nat) (e:TypeId) (v:Value) (vs:List Value):Prop:=w.ownsRow base e 1 v vs.length vs
section
variable {w w':World} {base:Nat} {e:TypeId} {v:Value} {vs:List Value} {A:Option Addr} {c:Nat}
theorem OwV.nil0 (w:World) (base:Nat) (e:TypeId):OwV w base e (.slice none 0 0) []:=World.ownsRow_nil w base e 1
theorem OwV.alloc (h:OwV w base e v vs) (o:Obj):OwV (w.alloc o) base e v vs:=World.ownsRow.alloc h o
theorem OwV.drew (h:OwV w base e v vs):OwV w.drew base e v vs:=h
theorem OwV.below {B:Nat} (h:OwV w base e v vs) (hb:Below B w w') (hB:w.heap.size≤B):OwV w' base e v vs:=by
 have hb':∀ k,k < w.heap.size→w'.heap[k]? = w.heap[k]?:=fun k hk=>hb.block k (by omega);rcases h.2 with ⟨hv,h0⟩ | ⟨g,cap,cur,hv,hg,hh,hnc,hcap,hsz,htk⟩
 ·exact ⟨h.1,.inl ⟨hv,h0⟩⟩
 ·exact ⟨h.1,.inr ⟨g,cap,cur,hv,hg,(hb' g (lt_of_block hh)).trans hh,hnc,hcap,hsz,htk⟩⟩
theorem OwV.own (h:OwV w base e v vs):∀ k,v.ownBlock=some k→base≤k∧k < w.heap.size:=fun k hk=>World.ownsRow.lt h k hk
theorem OwV.rd (h:OwV w base e (.slice A vs.length c) vs):RdV w w.heap.size A vs:=RdV.of_own h
theorem OwV.form (h:OwV w base e v vs):∃ A c,v=.slice A vs.length c∧vs.length≤c:=by
 rcases h.2 with ⟨rfl,h0⟩ | ⟨g,cap,cur,rfl,_,_,hnc,_⟩
 ·exact ⟨none,0,by rw [h0],by omega⟩
 ·exact ⟨_,_,rfl,hnc⟩
end
section
variable {w w' w1:World} {base:Nat} {e e':TypeId} {v v':Value} {vs vs':List Value} {row:Option Nat}
theorem OwV.far (h:OwV w base e v vs) {p:Addr} (hp:p.block < base) (u:Value):OwV (w.setCell p u) base e v vs:=by
 rcases h.2 with ⟨hv,h0⟩ | ⟨g,cap,cur,hv,hg,hh,hnc,hcap,hsz,htk⟩
 ·exact ⟨h.1,.inl ⟨hv,h0⟩⟩
 ·exact ⟨h.1,.inr ⟨g,cap,cur,hv,hg,(Below.heap_setCell w p u g (by omega)).trans hh,hnc,hcap,hsz,htk⟩⟩
theorem OwV.grown (h:OwV w base e v vs) (hb:w.grownBy w1 row) (hne:∀ k,v.ownBlock=some k→row≠some k):OwV w1 base e v vs:=by
 rcases h.2 with ⟨hv,h0⟩ | ⟨g,cap,cur,hv,hg,hh,hnc,hcap,hsz,htk⟩
 ·exact ⟨h.1,.inl ⟨hv,h0⟩⟩
 ·exact ⟨h.1,.inr ⟨g,cap,cur,hv,hg,(hb.block g (lt_of_block hh) (fun e=>hne g (by rw [hv]; rfl) e.symm)).trans hh,hnc,hcap,hsz,htk⟩⟩
theorem OwV.apart (h:OwV w base e v vs) (h':OwV w base e' v' vs') (hne:e≠e'):∀ k,v.ownBlock=some k→v'.ownBlock≠some k:=by
 intro k hk hk';rcases h.2 with ⟨hv,h0⟩ | ⟨g,cap,cur,hv,hg,hh,-⟩
 ·rw [hv] at hk; cases hk
 rcases h'.2 with ⟨hv',h0'⟩ | ⟨g',cap',cur',hv',hg',hh',-⟩
 ·rw [hv'] at hk'; cases hk'
 rw [hv] at hk; rw [hv'] at hk';cases hk; cases hk'
 rw [hh] at hh';injection hh' with h1
 injection h1 with _ h2
 exact hne h2
end
end Go.Proofs.YtgnjhlnolihgcaaGreat
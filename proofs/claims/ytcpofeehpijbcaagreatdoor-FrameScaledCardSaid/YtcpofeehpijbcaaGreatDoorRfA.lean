import Derived.Test.YtcpofeehpijbcaaGreatDoorMg6
import Derived.Test.YtcpofeehpijbcaaGreatDoorFr7
namespace Go.Proofs.YtcpofeehpijbcaaGreatDoor
open Go.RowKit Go.Lib Go.Shelf
theorem add_at0 (g j:Nat):(⟨g,0,none⟩:Addr).add j=⟨g,j,none⟩:=by unfold Addr.add; split <;> simp_all
theorem app_cells {t e:TypeId} {i:TypeInfo} {z:Value} {size bytes:Nat} (ht:Tryz.prog.underlying t=some (.slice e)) (hi:Tryz.prog.info? e=some i) (hz:i.zero=some z) (hsz:i.size=size) (hby:i.bytes=bytes) (hb1:bytes≤1000) (hs0:0 < size)
  (g:Nat) (olds:List Value) (n0:Nat) (w:World) (hlo:olds.length=n0 * size) (ho:RdV w w.heap.size (some ⟨g,0,none⟩) olds) {B:Nat} {A:Option Addr} {news:List Value} {n1 c:Nat} (hl:news.length=n1 * size) (hn:RdV w B A news) (hbd:n0+n1≤1000000) :
  ∃ A' c' w',(∀ ty,(Builtin.append_ #[t,t] ty #[.slice (some ⟨g,0,none⟩) n0 n0,.slice A n1 c]).run Tryz.prog w=.ok (.slice A' (n0+n1) c') w')∧RdV w' w'.heap.size A' (olds ++ news)∧n0+n1≤c'∧Below w.heap.size w w':=by
 subst hsz hby
 rcases Nat.eq_zero_or_pos n1 with rfl | hp
 ·have hnil:news=[]:=List.eq_nil_of_length_eq_zero (by simpa using hl);subst hnil
  have hsrc:Src Tryz.prog i.size t (.slice A 0 c) 0 [] w:=by
   cases A with
   | none=>exact Src.ofNil w ht c
   | some a=>exact Src.ofSlice w ht a 0 c [] (by simp) (fun j u h=>by simp at h) (fun u h=>by cases h)
  exact ⟨_,_,w,fun ty=>run_append_nothing w t t ty e i ht hi _ n0 n0 (Nat.le_refl _) _ hsrc,by simpa using ho,Nat.le_refl _,Below.refl _ _⟩
 ·obtain ⟨b,q,rfl,-,hc⟩:=hn (by rw [hl]; exact Nat.mul_pos hp hs0)
  have hr:=fun ty=>run_append_grow (P:=Tryz.prog) w t ty e i z ht hi hz ⟨g,0,none⟩ n0 n0 olds hlo (fun j v hv=>by
   rw [add_at0];obtain ⟨b',o',e',-,hc'⟩:=ho (by have:=(List.getElem?_eq_some_iff.1 hv).1; omega);cases e'
   have:=hc' j v hv;rwa [Nat.zero_add] at this) ⟨b,q,none⟩ n1 c news hl (fun j u hu=>by rw [Addr.add_lit]; exact hc j u hu) (by omega) (by omega) (growslice_fits (by omega) (Nat.le_trans (Nat.mul_le_mul hbd hb1) (by decide)))
  refine ⟨_,_,_,hr,fun _=>⟨w.heap.size,0,rfl,by simp,fun j v hv=>?_⟩,grownCap_ge ..,(Below.refl _ _).drew.alloc (Nat.le_refl _) _⟩;have hj:=(List.getElem?_eq_some_iff.1 hv).1;rw [Nat.zero_add,(BlkV.fresh (w:=w.drew) (g:=w.heap.size) rfl e _).cell,Array.getElem?_append_left (by simpa using hj)];simpa using hv
theorem info_ints {e:TypeId} (h:(Tryz.prog.info? e).map (fun i=>(i.zero,i.size,i.bytes))=some (some (.int .i64 0),1,8)):∃ i z,Tryz.prog.info? e=some i∧i.zero=some z∧i.size=1∧i.bytes=8:=by
 revert h
 generalize Tryz.prog.info? e=I;intro h
 cases I with
 | none=>cases h
 | some i=>
  simp only [Option.map_some,Option.some.injEq,Prod.mk.injEq] at h;exact ⟨i,_,rfl,h.1,h.2.1,h.2.2⟩
theorem app_ints0 {t e:TypeId} (ht:Tryz.prog.underlying t=some (.slice e)) (hie:(Tryz.prog.info? e).map (fun i=>(i.zero,i.size,i.bytes))=some (some (.int .i64 0),1,8)) (g B:Nat) (A:Option Addr) (l:List Int) (c:Nat) (w:World) (hs:SlI w B A l c) (hl:l.length≤1000000) :
  ∃ A' c' w',(∀ ty,(Builtin.append_ #[t,t] ty #[.slice (some ⟨g,0,none⟩) 0 0,.slice A l.length c]).run Tryz.prog w=.ok (.slice A' l.length c') w')∧SlI w' w'.heap.size A' l c'∧Below w.heap.size w w':=by
 obtain ⟨i,z,hi,hz,hsz,hby⟩:=info_ints hie;obtain ⟨A',c',w',hr,hrd,hle,hb⟩:=app_cells ht hi hz hsz hby (by decide) (by decide) g [] 0 w rfl (fun h=>absurd h (by simp)) (n1:=l.length) (c:=c) (by rw [cI_length,Nat.mul_one]) hs.rd (by omega);simp only [Nat.zero_add] at hr hle;exact ⟨A',c',w',hr,⟨by simpa using hrd,hs.lim,hle,hs.len⟩,hb⟩
theorem app_cards0 (g:Nat) (ks:List CD) (B:Nat) (A:Option Addr) (cs:List CD) (c:Nat) (w:World) (hk:RdV w w.heap.size (some ⟨g,0,none⟩) (ks.flatMap CD.cells)) (hko:∀ x∈ks,OkG x) (hs:SlG w B A cs c) (hl:ks.length+cs.length≤1000000) :
  ∃ A' c' w',(∀ ty,(Builtin.append_ #[22,22] ty #[.slice (some ⟨g,0,none⟩) ks.length ks.length,.slice A cs.length c]).run Tryz.prog w=.ok (.slice A' (ks ++ cs).length c') w')∧SlG w' w'.heap.size A' (ks ++ cs) c'∧Below w.heap.size w w':=by
 obtain ⟨i,z,hi,hz,-,hsz,hby⟩:=infoC;obtain ⟨A',c',w',hr,hrd,hle,hb⟩:=app_cells Tryz.underlying22 hi hz hsz hby (by decide) (by decide) g _ ks.length w (cds7 ks) hk (n1:=cs.length) (c:=c) (cds7 cs) hs.rd hl;rw [List.length_append];refine ⟨A',c',w',hr,⟨by rw [List.flatMap_append]; exact hrd,fun x hx=>?_,by rw [List.length_append]; exact hle,by rw [List.length_append]; omega⟩,hb⟩;rcases List.mem_append.1 hx with h | h
 ·exact hko x h
 ·exact hs.all x h
theorem infoFr:∃ i z,Tryz.prog.info? 53 = some i∧i.zero=some z∧i.size=4∧i.bytes=80:=by
 have hm:(Tryz.prog.info? 53).map (fun i=>(i.zero.isSome,i.size,i.bytes))=some (true,4,80):=(by kernel_rfl);revert hm
 generalize Tryz.prog.info? 53 = I;intro hm
 cases I with
 | none=>cases hm
 | some i=>
  simp only [Option.map_some,Option.some.injEq,Prod.mk.injEq] at hm;obtain ⟨z,hz⟩:=Option.isSome_iff_exists.1 hm.1;exact ⟨i,z,rfl,hz,hm.2.1,hm.2.2⟩
theorem app_frame0 (g:Nat) (v0 v1 v2 v3:Value) (w:World) (hk:BlkV w g 53 #[v0,v1,v2,v3]) :
  ∃ c w',(∀ ty,(Builtin.append_ #[55,55] ty #[.slice none 0 0,.slice (some ⟨g,0,none⟩) 1 1]).run Tryz.prog w=.ok (.slice (some ⟨w.heap.size,0,none⟩) 1 c) w') ∧
   (w'.cell? ⟨w.heap.size,0,none⟩=some v0∧w'.cell? ⟨w.heap.size,1,none⟩=some v1∧w'.cell? ⟨w.heap.size,2,none⟩=some v2∧w'.cell? ⟨w.heap.size,3,none⟩=some v3)∧w.heap.size < w'.heap.size∧Below w.heap.size w w':=by
 obtain ⟨i,z,hi,hz,hsz,hby⟩:=infoFr;have hr:=fun ty=>run_append_nil (P:=Tryz.prog) w 55 ty 53 i z Tryz.underlying55 hi hz ⟨g,0,none⟩ 1 1 [v0,v1,v2,v3] (by rw [hsz]; rfl) (fun j v hv=>by rw [add_at0,hk.cell]; simpa using hv) (by decide) (by decide) (by rw [hby]; decide);refine ⟨_,_,hr,?_,by simp,(Below.refl _ _).drew.alloc (Nat.le_refl _) _⟩;have hb:=fun cs=>BlkV.fresh (w:=w.drew) (g:=w.heap.size) rfl 53 cs;refine ⟨?_,?_,?_,?_⟩ <;> (rw [(hb _).cell,Array.getElem?_append_left (by simp)]; rfl)
theorem wp_append_at {o:Oper} {a:Act} {w:World} {K:Act→World→Prop} {Q:Exit→Act→World→Prop} (s x:Operand) (t:TypeId) (ho:o.op=.call { callee:=.builtin .append,args:=#[s,x],argTypes:=#[t,t] }) (v1 v2 v':Value) (w':World) (hs:a.eval s=v1) (hx:a.eval x=v2)
  (hr:(Builtin.append_ #[t,t] o.type #[v1,v2]).run Tryz.prog w=.ok v' w') (h:K (a.put o.dst v') w'):o.wp Tryz.prog a w K Q:=by
 unfold Oper.wp execOp;simp only [ho,resolve,invoke,builtin,Sem.run_bind,Sem.run_pure,Result.andThen_ok,List.map_toArray,List.map_cons,List.map_nil,hs,hx,hr];exact h
end Go.Proofs.YtcpofeehpijbcaaGreatDoor
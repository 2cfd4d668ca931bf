import Derived.Test.YtgnjhlnolihgcaaGreatDown
import Derived.Test.YtgnjhlnolihgcaaGreatW10
import Derived.Deep.QuietTactic
set_option maxHeartbeats 4000000
set_option maxRecDepth 100000
namespace Go.Proofs.YtgnjhlnolihgcaaGreat
open Go.RowKit Go.Shelf
attribute [local go_sem] Oper.semAt_some
theorem Sl.keepB {w w':World} {B g o c:Nat} {l:List Nat} (h:Sl w (some ⟨g,o,none⟩) l c) (hb:Below B w w') (hg:g < B):Sl w' (some ⟨g,o,none⟩) l c:=by
 refine ⟨fun hl=>?_,h.lim,h.le,h.len⟩;obtain ⟨b,o2,e,hc⟩:=h.rd hl;cases e
 exact ⟨g,o,rfl,fun i hi=>(hb.cell hg).trans (hc i hi)⟩
def ShI (g1 g2:Nat) (l:List Nat) (d:Nat) (pre:List { i:Nat // i < l.length }) (W:World):Prop:=
 ∃ (r:Nat) (o:List Nat),r < d∧o.length=l.length∧Lim o∧Blk W g1 146 o∧Blk W g2 146 [r] ∧
  ((∃ rest,pre ++ rest=q1k l.length)→val (o.drop (l.length - pre.length))=val (l.drop (l.length - pre.length)) / d∧r=val (l.drop (l.length - pre.length)) % d)
theorem ownFrom_shI (B g1 g2:Nat) (l:List Nat) (d:Nat) (h1:g1 < B) (h2:g2 < B):OwnFrom B (fun pre W=>ShI g1 g2 l d pre W):=by
 rintro pre W W' row ⟨r,o,hr,ho,hl,hb1,hb2,hc⟩ hg hrow;exact ⟨r,o,hr,ho,hl,own_block hb1 h1 hg hrow,own_block hb2 h2 hg hrow,hc⟩
theorem short_new (A:Option Addr) (l:List Nat) (c d:Nat) (w:World) (hs:Sl w A l c) (hlen:l.length≤1000000) (hd:0 < d) (hd2:d < 4294967296) :
  Calls Tryz.prog 194 #[.slice A l.length c,.int .u32 d] w fun e w'=>∃ A' c',e=.returned (.tuple #[.slice A' (limbs (val l / d)).length c',.int .u32 (val l % d:Nat)])∧Sl w' A' (limbs (val l / d)) c'∧(∀ ad,A'=some ad→w.heap.size≤ad.block)∧Below w.heap.size w w':=by
 refine (callsIn_wide (n:=5)).1 ?_;obtain ⟨i0,hi,hz0,hz1,hz2⟩:=info_parts info32;have hmk:=fun W=>q0n (P:=Tryz.prog) 44 146 i0 Tryz.underlying44 hi hz0 hz1 hz2 (l.length:Int) (l.length:Int) l.length l.length rfl rfl (Nat.le_refl _) (by omega) W;have Hs:=Lib.hid hs;clear hs hi hz0 hz1 hz2;refine callsIn_of_wp_marks Tryz.func194 rfl trivial ?_ rfl;simp only [Tryz.ntmps194,List.size_toArray,List.length_cons,List.length_nil,Nat.reduceAdd,Nat.reduceSub,Array.replicate_succ,Array.replicate_zero,List.push_toArray,List.append_toArray,List.nil_append,List.cons_append];gi_wp2_with (refine ⟨trivial,?_⟩; gi_at_call 191; refine (down_in _ _ trivial rfl _ _ _ _).mono ?_; rintro e w' ⟨rfl,rfl⟩)
 clear hmk;have Q3:Hid ((((((w.alloc (.cells #[.int .u32 (d:Nat)] 146)).alloc (.cells (zrow l.length) 146)).alloc (.cells #[.slice (some ⟨w.heap.size+1,0,none⟩) l.length l.length] 44)).alloc (.cells #[.int .u32 0] 146)).alloc (.cells #[.slice A l.length c] 44)).cell? ⟨w.heap.size,0,none⟩=some (.int .u32 d)):=(by unfold Hid; go_simp);have Q6:Hid ((((((w.alloc (.cells #[.int .u32 (d:Nat)] 146)).alloc (.cells (zrow l.length) 146)).alloc (.cells #[.slice (some ⟨w.heap.size+1,0,none⟩) l.length l.length] 44)).alloc (.cells #[.int .u32 0] 146)).alloc (.cells #[.slice A l.length c] 44)).cell? ⟨w.heap.size+1+1,0,none⟩=some (.slice (some ⟨w.heap.size+1,0,none⟩) l.length l.length)):=(by unfold Hid; go_simp);have Qd:Hid ((((((w.alloc (.cells #[.int .u32 (d:Nat)] 146)).alloc (.cells (zrow l.length) 146)).alloc (.cells #[.slice (some ⟨w.heap.size+1,0,none⟩) l.length l.length] 44)).alloc (.cells #[.int .u32 0] 146)).alloc (.cells #[.slice A l.length c] 44)).cell? ⟨w.heap.size+1+1+1+1,0,none⟩=some (.slice A l.length c)):=by unfold Hid; go_simp
 have G1:Hid (Blk (((((w.alloc (.cells #[.int .u32 (d:Nat)] 146)).alloc (.cells (zrow l.length) 146)).alloc (.cells #[.slice (some ⟨w.heap.size+1,0,none⟩) l.length l.length] 44)).alloc (.cells #[.int .u32 0] 146)).alloc (.cells #[.slice A l.length c] 44)) (w.heap.size+1) 146 (List.replicate l.length 0)):=by
  have h:=Blk.zrow (w.alloc (.cells #[.int .u32 (d:Nat)] 146)) 146 l.length;rw [World.size_alloc] at h;exact ((h.alloc _).alloc _).alloc _
 have G2:Hid (Blk (((((w.alloc (.cells #[.int .u32 (d:Nat)] 146)).alloc (.cells (zrow l.length) 146)).alloc (.cells #[.slice (some ⟨w.heap.size+1,0,none⟩) l.length l.length] 44)).alloc (.cells #[.int .u32 0] 146)).alloc (.cells #[.slice A l.length c] 44)) (w.heap.size+1+1+1) 146 [0]):=by
  have h:=Blk.new (((w.alloc (.cells #[.int .u32 (d:Nat)] 146)).alloc (.cells (zrow l.length) 146)).alloc (.cells #[.slice (some ⟨w.heap.size+1,0,none⟩) l.length l.length] 44)) 146 [0];simp only [World.size_alloc] at h;exact h.alloc _
 have HS:Hid (Sl (((((w.alloc (.cells #[.int .u32 (d:Nat)] 146)).alloc (.cells (zrow l.length) 146)).alloc (.cells #[.slice (some ⟨w.heap.size+1,0,none⟩) l.length l.length] 44)).alloc (.cells #[.int .u32 0] 146)).alloc (.cells #[.slice A l.length c] 44)) A l c):=((((Hs.out.alloc _).alloc _).alloc _).alloc _).alloc _
 have HF:Hid (0 < l.length→∀ ad,A=some ad→ad.block < w.heap.size):=by
  intro hl ad e;obtain ⟨b,o,e2,hc⟩:=Hs.out.rd hl;rw [e2] at e;cases e
  exact lt_of_cell (hc 0 hl)
 have HB0:Hid (Below w.heap.size w (((((w.alloc (.cells #[.int .u32 (d:Nat)] 146)).alloc (.cells (zrow l.length) 146)).alloc (.cells #[.slice (some ⟨w.heap.size+1,0,none⟩) l.length l.length] 44)).alloc (.cells #[.int .u32 0] 146)).alloc (.cells #[.slice A l.length c] 44))):=(blw4 _ _ _ _ _).alloc (by simp <;> omega) _;have hsz:(((((w.alloc (.cells #[.int .u32 (d:Nat)] 146)).alloc (.cells (zrow l.length) 146)).alloc (.cells #[.slice (some ⟨w.heap.size+1,0,none⟩) l.length l.length] 44)).alloc (.cells #[.int .u32 0] 146)).alloc (.cells #[.slice A l.length c] 44)).heap.size=w.heap.size+5:=(by simp);generalize ((((w.alloc (.cells #[.int .u32 (d:Nat)] 146)).alloc (.cells (zrow l.length) 146)).alloc (.cells #[.slice (some ⟨w.heap.size+1,0,none⟩) l.length l.length] 44)).alloc (.cells #[.int .u32 0] 146)).alloc (.cells #[.slice A l.length c] 44)=W0 at *
 refine wpIn_rangeFunc_ownG rfl (by omega) (gf:=227) (lb:=#[.pointer (some ⟨w.heap.size+1+1+1+1,0,none⟩)]) rfl trivial (enters_of Tryz.func227 (by kernel_rfl) rfl)
  (down1_in Fence.wide 4 trivial rfl (by omega) (w.heap.size+1+1+1+1) c A l W0 HS.out.len (KpB W0.heap.size (w.heap.size+1) (w.heap.size+1+1+1)) (KpB W0.heap.size (w.heap.size+1) (w.heap.size+1+1+1) W0) (fun _ h=>KpB.of h) (fun _ _ h k=>h.trans k)
   (fun _ h=>⟨h.cell Qd.out (by simp; omega) (by simp <;> omega) (by simp <;> omega),h.sl HS.out (fun hl ad e=>by have:=HF.out hl ad e; omega)⟩)) (fun h k=>h.trans k) (fun W l _ o' hl _ _ _=>KpB.putObj W l o' hl) (Below.refl _ _) (fun _=>rfl)
  (fun pre W=>ShI (w.heap.size+1) (w.heap.size+1+1+1) l d pre W∧KpB W0.heap.size (w.heap.size+1) (w.heap.size+1+1+1) W0 W∧Below w.heap.size w W)
  (fun _ _ _=>False)
  (OwnFrom.and (ownFrom_shI _ _ _ _ _ (by omega) (by omega)) (OwnFrom.and (ownFrom_kp (Nat.le_refl _)) (ownFrom_below (Nat.le_refl _) (by omega))))
  (fun _ _ _ _ _ hs _ _=>hs)
  ⟨⟨0,List.replicate l.length 0,hd,by simp,q0g _,G1.out,G2.out,fun _=>by rw [List.length_nil,Nat.sub_zero,val_drop_end,List.drop_of_length_le (by simp)]; exact ⟨(Nat.zero_div _).symm,(Nat.zero_mod _).symm⟩⟩,KpB.refl _ _ _ _,HB0.out⟩
  (fun x=>{ tmps:=#[.slice A l.length c,.int .u32 d,undef,.pointer (some ⟨w.heap.size,0,none⟩),.slice none 0 0,.int .u32 0,.pointer (some ⟨w.heap.size+1+1,0,none⟩),.pointer (some ⟨w.heap.size+1+1+1,0,none⟩),.int .i64 (x.1:Int),.int .u32 (l[x.1]?.getD 0:Nat),.slice A l.length c,.int .i64 l.length,.slice (some ⟨w.heap.size+1,0,none⟩) l.length l.length,.slice A l.length c,
   .func (.func 227) #[] #[.pointer (some ⟨w.heap.size+1+1+1+1,0,none⟩)],.int .i64 (x.1:Int),.int .u32 (l[x.1]?.getD 0:Nat),undef,undef,undef,undef,undef,undef,undef,undef,undef,undef,undef,undef,undef],defers:=[] }) ?assign ?body ?done ?stop
 case assign=>
  intro l' x W K hK;simp only [encD];gi_wp2
  exact hK
 case body=>
  rintro l' pre x W ⟨⟨r,o,hr,hol,holim,hb1,hb2,hcond⟩,hK,hB⟩ _;have hx1:=x.2;have q3:=hK.cell Q3.out (by simp; omega) (by simp <;> omega) (by simp <;> omega);have q6:=hK.cell Q6.out (by simp; omega) (by simp <;> omega) (by simp <;> omega);have q7:W.cell? ⟨w.heap.size+1+1+1,0,none⟩=some (.int .u32 (r:Nat)):=hb2.cell (i:=0) (by simp);have f7:W.frozen? ⟨w.heap.size+1+1+1,0,none⟩=false:=hb2.frozen 0;have q1:W.cell? ⟨w.heap.size+1,x.1,none⟩=some (.int .u32 (o[x.1]?.getD 0:Nat)):=hb1.cell (by omega);have f1:W.frozen? ⟨w.heap.size+1,x.1,none⟩=false:=hb1.frozen _;have hx2:=q0e HS.out.lim x.1;have Hol:=Lib.hid hol;have Hlim:=Lib.hid holim;have Hb1:=Lib.hid hb1;have Hb2:=Lib.hid hb2;have Hcond:=Lib.hid hcond;have HK:=Lib.hid hK;have HB:=Lib.hid hB;have Hqlt:=Lib.hid (ldiv_lt hr hx2);have Hrlt:Hid ((r * 4294967296+l[x.1]?.getD 0) % d < d):=Nat.mod_lt _ hd;clear hol holim hb1 hb2 hcond hK hB;have Hst:Hid (val (o.drop (x.1+1))=val (l.drop (x.1+1)) / d→r=val (l.drop (x.1+1)) % d→val ((o.set x.1 ((r * 4294967296+l[x.1]?.getD 0) / d)).drop x.1)=val (l.drop x.1) / d∧(r * 4294967296+l[x.1]?.getD 0) % d=val (l.drop x.1) % d):=fun ha hb=>ldiv_step hd hx1 Hol.out ha hb;generalize hy:l[x.1]?.getD 0=y at *;have Hy:=Lib.hid hy;clear hy;have hcall:=fun W':World=>div32_any r y d hx2 hr hd2 W';generalize hqq:(r * 4294967296+y) / d=q at *;generalize hrr:(r * 4294967296+y) % d=r2 at *;gi_wp2
  refine wpIn_region_heldR (S:=fun w'=>w'.cell? ⟨w.heap.size+1+1,0,none⟩=some (.slice (some ⟨w.heap.size+1,0,none⟩) l.length l.length)∧w'.cell? ⟨w.heap.size,0,none⟩=some (.int .u32 d)) (by kernel_rfl) (by kernel_rfl) (fun ⟨_,_,h⟩=>h) ⟨q6,q3⟩ (fun hHeld=>?_);refine wpAnyH_take (i:=0) (v:=.slice (some ⟨w.heap.size+1,0,none⟩) l.length l.length) rfl (by kernel_rfl) (by kernel_rfl) (by kernel_rfl) (fun _ _ _ h=>h) (Or.inl ⟨by rfl,?_⟩) (by assumption) ?_
  ·(intro w hSw; (try dsimp only at hSw); go_simp)
  simp only [Act.put,List.setIfInBounds_toArray];refine wpAnyH_take (i:=1) (v:=.int .i64 (x.1:Int)) rfl (by kernel_rfl) (by kernel_rfl) (by kernel_rfl) (fun _ _ _ h=>h) (Or.inl ⟨by rfl,?_⟩) (by assumption) ?_
  ·(intro w hSw; (try dsimp only at hSw); go_simp)
  simp only [Act.put];refine wpAnyH_take (i:=3) (v:=.int .u32 (y:Nat)) rfl (by kernel_rfl) (by kernel_rfl) (by kernel_rfl) (fun _ _ _ h=>h) (Or.inl ⟨by rfl,?_⟩) (by assumption) ?_
  ·(intro w hSw; (try dsimp only at hSw); go_simp)
  simp only [Act.put];refine wpAnyH_take (i:=4) (v:=.int .u32 (d:Nat)) rfl (by kernel_rfl) (by kernel_rfl) (by kernel_rfl) (fun _ _ _ h=>h) (Or.inl ⟨by rfl,?_⟩) (by assumption) ?_
  ·(intro w hSw; (try dsimp only at hSw); go_simp)
  simp only [Act.put];refine wpAnyH_ready (rs:=[2]) (by kernel_rfl) (by simp) ?_;refine AllReadyH.cons rfl (fun K hK=>?_) AllReadyH.nil;go_simp
  refine hK.out _ _ hHeld (fun hHeld=>?_);clear hK K;refine wpAnyH_ready (rs:=[5]) (by kernel_rfl) (by simp) ?_;refine AllReadyH.cons rfl (fun K hK=>?_) AllReadyH.nil;go_simp
  refine (hcall _).mono ?_;rintro e v ⟨rfl,k,rfl⟩;go_simp
  refine hK.out _ _ hHeld (fun hHeld=>?_);clear hK K;refine wpAnyH_take (i:=6) (v:=.tuple #[.int .u32 (q:Nat),.int .u32 (r2:Nat)]) rfl (by kernel_rfl) (by kernel_rfl) (by kernel_rfl) (fun _ _ _ h=>h) (Or.inl ⟨by rfl,?_⟩) (by assumption) ?_
  ·(intro w hSw; (try dsimp only at hSw); go_simp)
  simp only [Act.put];refine wpAnyH_take (i:=7) (v:=.int .u32 (q:Nat)) rfl (by kernel_rfl) (by kernel_rfl) (by kernel_rfl) (fun _ _ _ h=>h) (Or.inl ⟨by rfl,?_⟩) (by assumption) ?_
  ·(intro w hSw; (try dsimp only at hSw); go_simp)
  simp only [Act.put];refine wpAnyH_take (i:=8) (v:=.int .u32 (r2:Nat)) rfl (by kernel_rfl) (by kernel_rfl) (by kernel_rfl) (fun _ _ _ h=>h) (Or.inl ⟨by rfl,?_⟩) (by assumption) ?_
  ·(intro w hSw; (try dsimp only at hSw); go_simp)
  simp only [Act.put];refine wpAnyH_take (i:=9) (v:=.pointer (some ⟨w.heap.size+1,x.1,none⟩)) rfl (by kernel_rfl) (by kernel_rfl) (by kernel_rfl) (fun _ _ _ h=>h) (Or.inl ⟨by rfl,?_⟩) (by assumption) ?_
  ·(intro w hSw; (try dsimp only at hSw); go_simp)
  simp only [Act.put];refine wpAnyH_ready (rs:=[10]) (by kernel_rfl) (by simp) ?_;refine AllReadyH.cons rfl (fun K hK=>?_) AllReadyH.nil;go_simp
  refine hK.out _ _ ⟨(World.cell?_setCell_other _ _ _ _ (by simp)).trans hHeld.1,(World.cell?_setCell_other _ _ _ _ (by simp <;> omega)).trans hHeld.2⟩ (fun hHeld=>?_);clear hK K;refine wpAnyH_ready (rs:=[11]) (by kernel_rfl) (by simp) ?_;refine AllReadyH.cons rfl (fun K hK=>?_) AllReadyH.nil;go_simp
  refine hK.out _ _ ⟨(World.cell?_setCell_other _ _ _ _ (by simp)).trans hHeld.1,(World.cell?_setCell_other _ _ _ _ (by simp <;> omega)).trans hHeld.2⟩ (fun hHeld=>?_);clear hK K;refine wpAnyH_done (by kernel_rfl) ?_ _;have hkp:KpB W0.heap.size (w.heap.size+1) (w.heap.size+1+1+1) W (((W.drewN (1+k)).setCell ⟨w.heap.size+1,x.1,none⟩ (.int .u32 (q:Nat))).setCell ⟨w.heap.size+1+1+1,0,none⟩ (.int .u32 (r2:Nat))):=(((KpB.refl _ _ _ _).drewN _).set1 _ _).set2 _ _;refine ⟨(keeps_drewN _ _ _).trans (((KeepsOthers.setCell _ _ _).from _).trans ((KeepsOthers.setCell _ _ _).from _)),hkp,⟨r2,o.set x.1 q,Hrlt.out,by rw [List.length_set]; exact Hol.out,q1c Hlim.out Hqlt.out,((Hb1.out.drewN _).set_ _ _).far (by simp <;> omega) _,((Hb2.out.drewN _).far (by simp <;> omega) _).set_ 0 r2,fun hp=>?_⟩,HK.out.trans hkp,((below_drewN HB.out _).setCell (p:=⟨w.heap.size+1,x.1,none⟩) (by simp <;> omega) _).setCell (p:=⟨w.heap.size+1+1+1,0,none⟩) (by simp <;> omega) _⟩;obtain ⟨hp1,hp2⟩:=down_next hp;have hc:=Hcond.out hp1;rw [show l.length - pre.length=x.1+1 by omega] at hc;rw [show l.length - (pre ++ [x]).length=x.1 by rw [List.length_append]; simp; omega];exact Hst.out hc.1 hc.2
 case done=>
  rintro D ys W hD rfl ⟨⟨r,o,hr,hol,holim,hb1,hb2,hcond⟩,hK,hB⟩ hDf;have hc:=hcond ⟨[],by simp⟩;rw [downAll_len,Nat.sub_self,List.drop_zero,List.drop_zero] at hc;have q6:=hK.cell Q6.out (by simp; omega) (by simp) (by simp);have q7:W.cell? ⟨w.heap.size+1+1+1,0,none⟩=some (.int .u32 (r:Nat)):=hb2.cell (i:=0) (by simp);have Hso:Hid (Sl W (some ⟨w.heap.size+1,0,none⟩) o l.length):=⟨hb1.rd,holim,by rw [hol]; exact Nat.le_refl _,by rw [hol]; omega⟩
  have Htr:Hid (∀ n,Calls Tryz.prog 160 #[.slice (some ⟨w.heap.size+1,0,none⟩) l.length l.length] (W.drewN n) fun e w'=>e=.returned (.slice (some ⟨w.heap.size+1,0,none⟩) (limbs (val l / d)).length l.length)∧w'=W.drewN n):=fun n=>by
   have h:=trim_any (some ⟨w.heap.size+1,0,none⟩) o l.length (W.drewN n) ⟨Hso.out.rd,Hso.out.lim,Hso.out.le,Hso.out.len⟩;rw [hol,hc.1] at h;exact h.mono fun _ _ ⟨a,b⟩=>⟨a,b.symm⟩
  have Hr:Hid (r=val l % d):=hc.2;have Hs2:Hid (Sl W (some ⟨w.heap.size+1,0,none⟩) (limbs (val l / d)) l.length):=(by have h:=Hso.out.trim; rw [hc.1] at h; exact h);have HB:=Lib.hid hB;clear hcond hc hb1 hb2 hol holim hK hB;gi_wp2
  refine wpIn_wide.2 ?_;go_quiet (exact Calls.quiet_of_same (Htr.out _))
  gi_wp2
  refine ⟨by simp,.inl ⟨_,_,rfl,run_takeDeferred (w:=W.drewN nq) hDf,?_⟩⟩;refine ⟨.tuple #[.slice (some ⟨w.heap.size+1,0,none⟩) (limbs (val l / d)).length l.length,.int .u32 (r:Nat)],?_,?_⟩
  ·simp [results,Tryz.f194,go_sem]
  ·have hbp:Below W0.heap.size (W.drewN nq) ((W.drewN nq).putObj D (.deferred none)):=belowK_b (w:=W0) (Nat.le_refl _) (W.drewN nq) D _ _ hD hDf rfl rfl;exact ⟨some ⟨w.heap.size+1,0,none⟩,l.length,by rw [Hr.out],Sl.keepB (w:=W.drewN nq) ⟨Hs2.out.rd,Hs2.out.lim,Hs2.out.le,Hs2.out.len⟩ hbp (by omega),(fun ad e=>by cases e; exact Nat.le_succ _),(below_drewN HB.out nq).trans (hbp.mono (by omega))⟩
 case stop=>
  rintro D c pre W _ _ h _;exact h.elim
theorem short_any (A:Option Addr) (l:List Nat) (c d:Nat) (w:World) (hs:Sl w A l c) (hlen:l.length≤1000000) (hd:0 < d) (hd2:d < 4294967296) :
  Calls Tryz.prog 194 #[.slice A l.length c,.int .u32 d] w fun e w'=>∃ A' c',e=.returned (.tuple #[.slice A' (limbs (val l / d)).length c',.int .u32 (val l % d:Nat)])∧Sl w' A' (limbs (val l / d)) c'∧Below w.heap.size w w':=
 (short_new A l c d w hs hlen hd hd2).mono fun _ _ ⟨A',c',e,s,_,b⟩=>⟨A',c',e,s,b⟩
end Go.Proofs.YtgnjhlnolihgcaaGreat
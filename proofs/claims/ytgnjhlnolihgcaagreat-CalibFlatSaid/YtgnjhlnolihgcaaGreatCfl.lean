import Derived.Test.YtgnjhlnolihgcaaGreatMed1
import Derived.Test.YtgnjhlnolihgcaaGreatRegI
import Derived.Test.YtgnjhlnolihgcaaGreatCal5
set_option maxHeartbeats 8000000
set_option maxRecDepth 100000
namespace Go.Proofs.YtgnjhlnolihgcaaGreat
open Go.RowKit
attribute [local go_sem ↓] Go.wp_at_zero Go.wp_at_succ
def TwR (w:World) (g:Nat) (l:List Int) (c:Nat):Prop:=∃ cur,BlkV w g 2 cur∧cur.size=c∧l.length≤c∧∀ i (h:i < l.length),cur[i]? = some (.int .i64 (l[i]'h))
section
variable {w w':World} {g g' c:Nat} {l:List Int}
theorem TwR.keep (h:TwR w g l c) (hb:Below w.heap.size w w'):TwR w' g l c:=by
 obtain ⟨cur,k,a,b,d⟩:=h;exact ⟨cur,k.keep hb,a,b,d⟩
theorem TwR.lt (h:TwR w g l c):g < w.heap.size:=by
 obtain ⟨cur,k,-⟩:=h;exact k.lt
theorem TwR.drew (h:TwR w g l c):TwR w.drew g l c:=h
theorem TwR.at_ (h:TwR w g l c) {i:Nat} (hi:i < l.length):w.cell? ⟨g,i,none⟩=some (.int .i64 (l[i]'hi))∧w.frozen? ⟨g,i,none⟩=false:=by
 obtain ⟨cur,k,a,b,d⟩:=h;exact ⟨k.at_ i (d i hi),k.frozen i⟩
theorem TwR.put (h:TwR w g l c) (i:Nat) (x:Int):TwR (w.setCell ⟨g,i,none⟩ (.int .i64 x)) g (l.set i x) c:=by
 obtain ⟨cur,k,a,b,d⟩:=h;refine ⟨_,k.set_ i _,by simpa using a,by simpa using b,fun j hj=>?_⟩;rw [List.length_set] at hj;rw [Array.getElem?_setIfInBounds,List.getElem_set];by_cases e:i=j
 ·subst e;rw [if_pos rfl,if_pos (by omega),if_pos rfl]
 ·rw [if_neg e,if_neg e]; exact d j hj
theorem TwR.far (h:TwR w g l c) {p:Addr} (hp:g≠p.block) (u:Value):TwR (w.setCell p u) g l c:=by
 obtain ⟨cur,k,a,b,d⟩:=h;exact ⟨cur,k.far hp u,a,b,d⟩
theorem TwR.ne_ {t:TypeId} {cs:Array Value} (h:TwR w g l c) (k:BlkV w g' t cs) (ht : 2 ≠ t):g≠g':=by
 obtain ⟨cur,kk,-⟩:=h;exact kk.ne_ k ht
theorem TwR.sli (h:TwR w g l c) (hl:In64 l) (hn:l.length≤17592186044416):SlI w w.heap.size (some ⟨g,0,none⟩) l c:=by
 obtain ⟨cur,k,a,b,d⟩:=h;refine ⟨fun _=>⟨g,0,rfl,k.lt,fun i v hv=>?_⟩,hl,b,hn⟩
 have hi:i < l.length:=by
  rcases Nat.lt_or_ge i l.length with h | h
  ·exact h
  ·rw [List.getElem?_eq_none (by rw [q0p]; exact h)] at hv; cases hv
 rw [cI_get hi] at hv;cases hv
 rw [Nat.zero_add];exact k.at_ i (d i hi)
end
theorem twr_own {w:World} {base:Nat} {v:Value} {l:List Int} (h:OwV w base 2 v (cI l)) (h0:0 < l.length):∃ g c,v=.slice (some ⟨g,0,none⟩) l.length c∧base≤g∧TwR w g l c:=by
 rcases h.2 with ⟨hv,e0⟩ | ⟨g,cap,cur,hv,hg,hh,hnc,hcap,hsz,htk⟩
 ·rw [q0p] at e0; omega
 ·rw [q0p] at hv hnc htk;refine ⟨g,cap,hv,hg,cur,hh,?_,hnc,fun i hi=>?_⟩
  ·rw [hsz,Nat.mul_one]
  ·have e:(cur.toList.take (l.length * 1))[i]? = some (.int .i64 (l[i]'hi)):=(by rw [htk]; exact cI_get hi);rw [List.getElem?_take,if_pos (by omega)] at e;simpa using e
theorem twin10_any (f:FD) (B:Nat) (w:World) (ok:OkD w B f) (h0:0 < f.l.length) (hn:f.l.length≤10000) :
  Calls Tryz.prog 16 #[.agg #[.int .i64 f.W,.int .i64 f.H,.slice f.A f.l.length f.c]] w fun e w'=>∃ g c,e=.returned (.agg #[.int .i64 f.W,.int .i64 f.H,.slice (some ⟨g,0,none⟩) f.l.length c])∧w.heap.size≤g∧TwR w' g f.l c∧Below w.heap.size w w':=by
 have O:=Lib.hid ok;clear ok;go_enter Tryz.func16,Tryz.ntmps16
 go_upto_region 1 with fail
 generalize hwz:(w.alloc (.cells #[.int .i64 f.W,.int .i64 f.H,.slice f.A f.l.length f.c] 53)).alloc (.cells #[.int .i64 0,.int .i64 0,.slice none 0 0] 53)=wz at *;have hb:Below w.heap.size w wz:=(by rw [← hwz]; exact q0a (blw1 _ _) (blw1 _ _));have K0:BlkV wz w.heap.size 53 #[.int .i64 f.W,.int .i64 f.H,.slice f.A f.l.length f.c]:=(by rw [← hwz]; exact (BlkV.fresh rfl _ _).alloc _);have K1:BlkV wz (w.heap.size+1) 53 #[.int .i64 0,.int .i64 0,.slice none 0 0]:=(by rw [← hwz]; exact BlkV.fresh (by first | rfl | simp) _ _);clear hwz;replace O:=Lib.hid (O.out.below hb);refine wp_region_HT (S:=fun w'=>w'.cell? ⟨w.heap.size,0,none⟩=some (.int .i64 f.W)∧w'.cell? ⟨w.heap.size,1,none⟩=some (.int .i64 f.H)∧w'.cell? ⟨w.heap.size,2,none⟩=some (.slice f.A f.l.length f.c)) 9 (by kernel_rfl) (by kernel_rfl) (⟨K0.drew.at_ 0 rfl,K0.drew.at_ 1 rfl,K0.drew.at_ 2 rfl⟩) (fun hHeld=>?_);refine q1d (i:=0) (v:=.pointer (some ⟨w.heap.size,0,none⟩)) rfl (by kernel_rfl) (by decide) (by kernel_rfl) (by kernel_rfl) (by kernel_rfl) (fun _ _ _ h=>h) (Or.inl ⟨by rfl,by intro w hSw; (try dsimp only at hSw); go_simp⟩) hHeld ?_;(try simp only [Act.put]);refine q1d (i:=1) (v:=.int .i64 f.W) rfl (by kernel_rfl) (by decide) (by kernel_rfl) (by kernel_rfl) (by kernel_rfl) (fun _ _ _ h=>h) (Or.inl ⟨by rfl,by intro w hSw; (try dsimp only at hSw); go_simp⟩) hHeld ?_;(try simp only [Act.put]);refine q1d (i:=2) (v:=.pointer (some ⟨w.heap.size,1,none⟩)) rfl (by kernel_rfl) (by decide) (by kernel_rfl) (by kernel_rfl) (by kernel_rfl) (fun _ _ _ h=>h) (Or.inl ⟨by rfl,by intro w hSw; (try dsimp only at hSw); go_simp⟩) hHeld ?_;(try simp only [Act.put]);refine q1d (i:=3) (v:=.int .i64 f.H) rfl (by kernel_rfl) (by decide) (by kernel_rfl) (by kernel_rfl) (by kernel_rfl) (fun _ _ _ h=>h) (Or.inl ⟨by rfl,by intro w hSw; (try dsimp only at hSw); go_simp⟩) hHeld ?_;(try simp only [Act.put]);refine q1d (i:=5) (v:=.pointer (some ⟨w.heap.size,2,none⟩)) rfl (by kernel_rfl) (by decide) (by kernel_rfl) (by kernel_rfl) (by kernel_rfl) (fun _ _ _ h=>h) (Or.inl ⟨by rfl,by intro w hSw; (try dsimp only at hSw); go_simp⟩) hHeld ?_;(try simp only [Act.put]);refine q1d (i:=6) (v:=.slice f.A f.l.length f.c) rfl (by kernel_rfl) (by decide) (by kernel_rfl) (by kernel_rfl) (by kernel_rfl) (fun _ _ _ h=>h) (Or.inl ⟨by rfl,by intro w hSw; (try dsimp only at hSw); go_simp⟩) hHeld ?_;(try simp only [Act.put]);clear hHeld;have K0d:=K0.drew;have K1d:=K1.drew;have Od:=O.out.sl.drew;have hbd:=hb.drew;clear K0 K1 hb O;generalize wz.drew=D at *;refine wpHT_ready (rs:=[4]) (by kernel_rfl) (by simp) (HTready.cons rfl (by decide) (fun K hK=>?_) HTready.nil);have K0a:BlkV (D.alloc (.cells #[] 2)) w.heap.size 53 #[.int .i64 f.W,.int .i64 f.H,.slice f.A f.l.length f.c]:=K0d.alloc _;go_simp
 refine hK.out _ _ (⟨K0a.at_ 0 rfl,K0a.at_ 1 rfl,K0a.at_ 2 rfl⟩) (fun hHeld2=>?_);clear hK K hHeld2;(try simp only [Act.put]);refine wpHT_ready (rs:=[7]) (by kernel_rfl) (by simp) (HTready.cons rfl (by decide) (fun K hK=>?_) HTready.nil);have hbn:=blw1 D (.cells #[] 2);have KN:BlkV (D.alloc (.cells #[] 2)) D.heap.size 2 #[]:=BlkV.fresh rfl _ _;have ow:(D.alloc (.cells #[] 2)).ownsRow D.heap.size 2 1 (.slice (some ⟨D.heap.size,0,none⟩) 0 0) 0 []:=⟨rfl,.inr ⟨D.heap.size,0,#[],rfl,Nat.le_refl _,KN,Nat.le_refl _,Nat.zero_le _,rfl,rfl⟩⟩;obtain ⟨y9,x9,hr9,how9,hbb9⟩:=app_nums 51 D.heap.size _ f.A f.l f.c (.slice (some ⟨D.heap.size,0,none⟩) 0 0) 0 [] (D.alloc (.cells #[] 2)) (Od.below hbn).rd ow (by omega) hbn.size;rw [Nat.zero_add,List.nil_append] at how9;have HOW0:OwV x9 D.heap.size 2 y9 (cI f.l):=(by unfold OwV; rw [q0p]; exact how9);obtain ⟨g,c,e9,hg,htw⟩:=twr_own HOW0 h0;subst e9;have hb9:Below D.heap.size D x9:=hbn.trans (hbb9 _ (Nat.le_refl _));clear how9 hbb9 HOW0 ow KN hbn;have K02:=K0d.keep hb9;have K12:=K1d.keep hb9;refine wp_appI_at (.tmp 7) (.tmp 9) 51 rfl _ _ _ _ (by kernel_rfl) (by kernel_rfl) hr9 ?_;refine hK.out _ _ (⟨K02.at_ 0 rfl,K02.at_ 1 rfl,K02.at_ 2 rfl⟩) (fun hHeld2=>?_);clear hK K hr9;(try simp only [Act.put]);refine q1d (i:=8) (v:=.agg #[.int .i64 f.W,.int .i64 f.H,.slice (some ⟨g,0,none⟩) f.l.length c]) rfl (by kernel_rfl) (by decide) (by kernel_rfl) (by kernel_rfl) (by kernel_rfl) (fun _ _ _ h=>h) (Or.inl ⟨by rfl,by intro w hSw; (try dsimp only at hSw); go_simp⟩) hHeld2 ?_;(try simp only [Act.put]);clear hHeld2;refine ⟨by kernel_rfl,?_⟩;have f0:=K12.frozen 0;have f1:=K12.frozen 1;have f2:=K12.frozen 2;have q0:x9.cell? ⟨w.heap.size+1,0,none⟩=some (.int .i64 0):=K12.at_ 0 rfl;have q1:x9.cell? ⟨w.heap.size+1,1,none⟩=some (.int .i64 0):=K12.at_ 1 rfl;have q2:x9.cell? ⟨w.heap.size+1,2,none⟩=some (.slice none 0 0):=K12.at_ 2 rfl;simp only [List.drop_succ_cons,List.drop_zero];have hgn:g≠w.heap.size+1:=htw.ne_ K12 (by decide);go_wp2
 exact bodyPost_ret (v:=.agg #[.int .i64 f.W,.int .i64 f.H,.slice (some ⟨g,0,none⟩) f.l.length c]) (by simp [results,Tryz.results16,go_sem,q0,q1,q2]) rfl ⟨g,c,rfl,Nat.le_trans hbd.size hg,((htw.far (p:=⟨w.heap.size+1,0,none⟩) hgn _).far (p:=⟨w.heap.size+1,1,none⟩) hgn _).far (p:=⟨w.heap.size+1,2,none⟩) hgn _,Below.setCell (Below.setCell (Below.setCell (q0a hbd hb9) (p:=⟨w.heap.size+1,0,none⟩) (Nat.le_succ _) _) (p:=⟨w.heap.size+1,1,none⟩) (Nat.le_succ _) _) (p:=⟨w.heap.size+1,2,none⟩) (Nat.le_succ _) _⟩
end Go.Proofs.YtgnjhlnolihgcaaGreat
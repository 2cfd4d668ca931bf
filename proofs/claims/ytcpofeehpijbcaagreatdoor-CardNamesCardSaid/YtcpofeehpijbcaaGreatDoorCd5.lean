import Derived.Test.YtcpofeehpijbcaaGreatDoorCd3
import Derived.Test.YtcpofeehpijbcaaGreatDoorEphD
set_option maxHeartbeats 4000000
set_option maxRecDepth 100000
namespace Go.Proofs.YtcpofeehpijbcaaGreatDoor
open List renaming getElem_toArray → z0q, getElem_cons_zero → z1q, getElem_cons_succ → z2q, setIfInBounds_toArray → z3q, set_cons_zero → z4q, set_cons_succ → z5q
open Lib renaming hid → lh
open Go.RowKit Go.Lib Go.Shelf
attribute [local go_sem ↓] Go.wp_at_zero Go.wp_at_succ
def CD.cells (c:CD):List Value:=[.string ⟨c.k.toArray⟩,.int .u8 c.kd,.bool c.y,.int .i64 c.n,.int .i64 c.e,.string ⟨c.t.toArray⟩,.string ⟨c.o.toArray⟩]
structure OkK (c:CD):Prop where
 ok:OkC c
 o:c.o.length≤10000000000000
 t:c.t.length≤140737488355328
 e : -9223372036854775808 < c.e
structure SlC (w:World) (B:Nat) (A:Option Addr) (cs:List CD) (c:Nat):Prop where
 rd:RdV w B A (cs.flatMap CD.cells)
 all:∀ x∈cs,OkK x
 le:cs.length≤c
 len:cs.length≤4398046511104
theorem SlC.below {w w':World} {B:Nat} {A:Option Addr} {cs:List CD} {c:Nat} (h:SlC w B A cs c) (hb:Below w.heap.size w w'):SlC w' B A cs c:=⟨h.rd.below hb,h.all,h.le,h.len⟩
theorem SlC.at_ {w:World} {B:Nat} {A:Option Addr} {cs:List CD} {c k:Nat} (h:SlC w B A cs c) (hk:k < cs.length) :
  ∃ b o,A=some ⟨b,o,none⟩∧b < B∧w.cell? ⟨b,o+k * 7,none⟩=some (.string ⟨(cs[k]'hk).k.toArray⟩)∧w.cell? ⟨b,o+k * 7+1,none⟩=some (.int .u8 (cs[k]'hk).kd)∧w.cell? ⟨b,o+k * 7+2,none⟩=some (.bool (cs[k]'hk).y) ∧
   w.cell? ⟨b,o+k * 7+3,none⟩=some (.int .i64 (cs[k]'hk).n)∧w.cell? ⟨b,o+k * 7+4,none⟩=some (.int .i64 (cs[k]'hk).e)∧w.cell? ⟨b,o+k * 7+5,none⟩=some (.string ⟨(cs[k]'hk).t.toArray⟩)∧w.cell? ⟨b,o+k * 7+6,none⟩=some (.string ⟨(cs[k]'hk).o.toArray⟩)∧OkK (cs[k]'hk):=by
 obtain ⟨b,o,e,hb,hc⟩:=h.rd.flat (m:=7) (fun _=>rfl) hk (by omega);exact ⟨b,o,e,hb,hc 0 _ rfl,hc 1 _ rfl,hc 2 _ rfl,hc 3 _ rfl,hc 4 _ rfl,hc 5 _ rfl,hc 6 _ rfl,h.all _ (List.getElem_mem hk)⟩
theorem remB_len {l:List UInt8} (h:remB l=true):l.length≤8:=by
 unfold remB at h;simp only [Bool.or_eq_true,beq_iff_eq] at h;rcases h with (h | h) | h <;> rw [h] <;> decide
theorem chk_len {c:CD} (h:chkC c=true):c.k.length≤8∧c.t.length≤300:=by
 unfold chkC chkC2 chkC3 wrdB at h;simp only [Bool.and_eq_true] at h;obtain ⟨-,h⟩:=h;split at h
 ·simp only [Bool.and_eq_true,decide_eq_true_eq] at h;exact ⟨remB_len h.1.1,by have:=h.1.2; omega⟩
 ·simp only [Bool.and_eq_true,decide_eq_true_eq] at h;exact ⟨h.1.1.1.1.1.1.1.2.2,h.1.1.2⟩
theorem pad8 (l:List UInt8) (hl:l.length≤70368744177664) (w:World) :
  Calls Tryz.prog 121 #[.string ⟨l.toArray⟩,.int .i64 8] w fun e w'=>e=.returned (.string ⟨(padR l 8).toArray⟩)∧Below w.heap.size w w':=pad_any l 8 hl (by omega) w
theorem pad80 (l:List UInt8) (hl:l.length≤70368744177664) (w:World) :
  Calls Tryz.prog 121 #[.string ⟨l.toArray⟩,.int .i64 80] w fun e w'=>e=.returned (.string ⟨(padR l 80).toArray⟩)∧Below w.heap.size w w':=pad_any l 80 hl (by omega) w
def oneL (c:CD):Prop:=c.kd=1∨(q0s c).length≤70
theorem lines_any (c:CD) (hc:OkC c) (hk:c.k.length≤1000) (ht:c.t.length≤10000) (ho:c.o.length≤10000000000000) (hs:oneL c) (w:World) (hE:Env w) :
  Calls Tryz.prog 84 #[.agg #[.string ⟨c.k.toArray⟩,.int .u8 c.kd,.bool c.y,.int .i64 c.n,.int .i64 c.e,.string ⟨c.t.toArray⟩,.string ⟨c.o.toArray⟩]] w fun e w'=>e=.returned (.string ⟨(lineS c).toArray⟩)∧Below w.heap.size w w':=by
 have hK:=hc.kd;have HB:=lh (fun W (hW:Below w.heap.size w W)=>behind_any c hc (fun _=>ht) ho W (hE.keep hW));have B0:Hid (Below w.heap.size w (w.alloc (.cells #[.string ⟨c.k.toArray⟩,.int .u8 c.kd,.bool c.y,.int .i64 c.n,.int .i64 c.e,.string ⟨c.t.toArray⟩,.string ⟨c.o.toArray⟩] 31))):=blw1 _ _;have K0:Hid (BlkV (w.alloc (.cells #[.string ⟨c.k.toArray⟩,.int .u8 c.kd,.bool c.y,.int .i64 c.n,.int .i64 c.e,.string ⟨c.t.toArray⟩,.string ⟨c.o.toArray⟩] 31)) w.heap.size 31 #[.string ⟨c.k.toArray⟩,.int .u8 c.kd,.bool c.y,.int .i64 c.n,.int .i64 c.e,.string ⟨c.t.toArray⟩,.string ⟨c.o.toArray⟩]):=BlkV.fresh rfl _ _;have HP:=lh (fun W=>pad8 c.k (by omega) W);have hpl:=padR_len c.k 8;by_cases h1:c.kd=1
 ·have E:Hid (lineS c=padR (padR c.k 8 ++ c.t) 80):=(by unfold Hid lineS; rw [if_pos h1]);have a1:((c.kd:Int) == 1)=true:=(by simp; omega);rw [E.out];clear E HB h1 hs hc hE ho;generalize padR c.k 8=q at *;have HQ:=lh (fun W=>pad80 (q ++ c.t) (by rw [List.length_append]; omega) W);have HA:=lh (q0d q c.t);have hql:(q ++ c.t).length≤20000:=(by rw [List.length_append]; omega);generalize padR (q ++ c.t) 80=r at *;obtain ⟨k,kd,y,n,e,t,o⟩:=c;dsimp only at *;generalize q ++ t=qt at *;go_enter Tryz.func84,Tryz.ntmps84
  go_upto_region 2 with fail
  generalize hw0:w.alloc (.cells #[.string ⟨k.toArray⟩,.int .u8 kd,.bool y,.int .i64 n,.int .i64 e,.string ⟨t.toArray⟩,.string ⟨o.toArray⟩] 31)=w0 at *;clear hw0;have JS:Hid (∀ X,Below w0.heap.size w0 X→X.cell? ⟨w.heap.size,0,none⟩=some (.string ⟨k.toArray⟩)∧X.cell? ⟨w.heap.size,5,none⟩=some (.string ⟨t.toArray⟩)):=fun X h=>⟨q0b h (K0.out.at_ 0 rfl),q0b h (K0.out.at_ 5 rfl)⟩;have Y0:Hid (Below w0.heap.size w0 w0.drew):=(Below.refl _ _).drew;refine wp_region_held_drew (S:=fun w'=>w'.cell? ⟨w.heap.size,0,none⟩=some (.string ⟨k.toArray⟩)∧w'.cell? ⟨w.heap.size,5,none⟩=some (.string ⟨t.toArray⟩)) (by kernel_rfl) (JS.out _ Y0.out) (fun hHeld=>?_);generalize w0.drew=wd at *;refine wpAnyH_take (i:=0) (v:=.pointer (some ⟨w.heap.size,0,none⟩)) rfl (by kernel_rfl) (by kernel_rfl) (by kernel_rfl) (fun _ _ _ h=>h) (Or.inl ⟨by rfl,by intro w hSw; (try dsimp only at hSw); go_simp⟩) (by assumption) ?_;(try simp only [Act.put,z0q,z1q,z3q,z4q,z5q]);refine wpAnyH_take (i:=1) (v:=.string ⟨k.toArray⟩) rfl (by kernel_rfl) (by kernel_rfl) (by kernel_rfl) (fun _ _ _ h=>h) (Or.inl ⟨by rfl,by intro w hSw; (try dsimp only at hSw); go_simp⟩) (by assumption) ?_;(try simp only [Act.put,z0q,z1q,z2q,z3q,z4q,z5q]);refine wpAnyH_take (i:=3) (v:=.pointer (some ⟨w.heap.size,5,none⟩)) rfl (by kernel_rfl) (by kernel_rfl) (by kernel_rfl) (fun _ _ _ h=>h) (Or.inl ⟨by rfl,by intro w hSw; (try dsimp only at hSw); go_simp⟩) (by assumption) ?_;(try simp only [Act.put,z0q,z1q,z2q,z3q,z4q,z5q]);refine wpAnyH_take (i:=4) (v:=.string ⟨t.toArray⟩) rfl (by kernel_rfl) (by kernel_rfl) (by kernel_rfl) (fun _ _ _ h=>h) (Or.inl ⟨by rfl,by intro w hSw; (try dsimp only at hSw); go_simp⟩) (by assumption) ?_;(try simp only [Act.put,z0q,z1q,z2q,z3q,z4q,z5q]);refine wpAnyH_ready (rs:=[2]) (by kernel_rfl) (by simp) ?_;refine AllReadyH.cons rfl (fun K hK=>?_) AllReadyH.nil;go_simp
  (with_reducible refine (HP.out wd).mono ?_);rintro e v1 ⟨rfl,hb⟩;(try dsimp only);have Y1:=lh (q0a Y0.out hb);clear hb;(try go_wp2_with fail);refine hK.out _ _ (JS.out _ Y1.out) (fun hHeld2=>?_);clear hK K hHeld;have hHeld:=hHeld2;clear hHeld2;(try simp only [Act.put,z0q,z1q,z2q,z3q,z4q,z5q]);skip;refine wpAnyH_take (i:=5) (v:=.string (ByteArray.mk q.toArray ++ ByteArray.mk t.toArray)) rfl (by kernel_rfl) (by kernel_rfl) (by kernel_rfl) (fun _ _ _ h=>h) (Or.inl ⟨by rfl,by intro w hSw; (try dsimp only at hSw); go_simp; omega⟩) (by assumption) ?_;(try simp only [Act.put,z0q,z1q,z2q,z3q,z4q,z5q]);rw [HA.out];refine wpAnyH_ready (rs:=[6]) (by kernel_rfl) (by simp) ?_;refine AllReadyH.cons rfl (fun K hK=>?_) AllReadyH.nil;go_simp
  (with_reducible refine (HQ.out v1).mono ?_);rintro e v2 ⟨rfl,hb⟩;(try dsimp only);have Y2:=lh (q0a Y1.out hb);clear hb;(try go_wp2_with fail);refine hK.out _ _ (JS.out _ Y2.out) (fun hHeld2=>?_);clear hK K hHeld;have hHeld:=hHeld2;clear hHeld2;(try simp only [Act.put,z0q,z1q,z2q,z3q,z4q,z5q]);refine wpAnyH_take (i:=7) (v:=.string ⟨r.toArray⟩) rfl (by kernel_rfl) (by kernel_rfl) (by kernel_rfl) (fun _ _ _ h=>h) (Or.inl ⟨by rfl,by intro w hSw; (try dsimp only at hSw); go_simp⟩) (by assumption) ?_;(try simp only [Act.put,z0q,z1q,z2q,z3q,z4q,z5q]);refine wpAnyH_done (by kernel_rfl) ?_ _;clear hHeld;go_wp2
  go_ret
  exact ⟨rfl,q0a B0.out Y2.out⟩
 ·have E:Hid (lineS c=padR (padR c.k 8 ++ ([61,32] ++ q0s c)) 80):=(by unfold Hid lineS; rw [if_neg h1]; rfl);have a1:((c.kd:Int) == 1)=false:=(by simp; omega);have hbl:(q0s c).length≤70:=hs.resolve_left h1;rw [E.out];clear E h1 hs hc hE ho;generalize q0s c=bh at *;generalize padR c.k 8=q at *;have HJ:=lh (fun b V (h:BlkV V b 9 #[.string ⟨q.toArray⟩,.string ⟨#[61,32]⟩])=>join2 b _ q [61,32] V h (by simp; omega));have HL:Hid (q ++ ([61,32] ++ bh)=(q ++ [61,32]) ++ bh):=(by unfold Hid; simp);rw [HL.out];clear HL;have hql:(q ++ [61,32]).length≤2000:=(by simp; omega);generalize q ++ [61,32]=hd at *;have HA:=lh (q0d hd bh);have HQ:=lh (fun W=>pad80 (hd ++ bh) (by rw [List.length_append]; omega) W);generalize padR (hd ++ bh) 80=r at *;obtain ⟨k,kd,y,n,e,t,o⟩:=c;dsimp only at *;generalize hd ++ bh=hb' at *;go_enter Tryz.func84,Tryz.ntmps84
  go_wp2_with fail
  generalize hw0:w.alloc (.cells #[.string ⟨k.toArray⟩,.int .u8 kd,.bool y,.int .i64 n,.int .i64 e,.string ⟨t.toArray⟩,.string ⟨o.toArray⟩] 31)=w0 at *;clear hw0;refine (HP.out _).mono ?_;rintro x w1 ⟨rfl,hb⟩;replace B0:=lh (q0a B0.out hb);replace K0:=lh (K0.out.keep hb);clear hb;have c0:=K0.out.at_ 0 rfl;have c1:=K0.out.at_ 1 rfl;have c2:=K0.out.at_ 2 rfl;have c3:=K0.out.at_ 3 rfl;have c4:=K0.out.at_ 4 rfl;have c5:=K0.out.at_ 5 rfl;have c6:=K0.out.at_ 6 rfl;go_wp2_with fail
  refine (HJ.out _ _ (BlkV.fresh rfl _ _)).mono ?_;rintro x w2 ⟨rfl,hb⟩;clear c0 c1 c2 c3 c4 c5 c6;replace K0:=lh ((K0.out.alloc _).keep hb);replace B0:=lh (q0a (q0a B0.out (blw1 _ _)) hb);clear hb;have c0:=K0.out.at_ 0 rfl;have c1:=K0.out.at_ 1 rfl;have c2:=K0.out.at_ 2 rfl;have c3:=K0.out.at_ 3 rfl;have c4:=K0.out.at_ 4 rfl;have c5:=K0.out.at_ 5 rfl;have c6:=K0.out.at_ 6 rfl;go_wp2_with fail
  refine (HB.out _ B0.out).mono ?_;rintro x w3 ⟨rfl,hb⟩;clear c0 c1 c2 c3 c4 c5 c6;replace B0:=lh (q0a B0.out hb);clear hb K0;have d70:decide ((bh.length:Int)≤70)=true:=decide_eq_true (by omega);go_wp2_with fail
  rw [HA.out];refine (HQ.out _).mono ?_;rintro x w4 ⟨rfl,hb⟩;replace B0:=lh (q0a B0.out hb);clear hb;go_wp2
  go_ret
  exact ⟨rfl,B0.out⟩
end Go.Proofs.YtcpofeehpijbcaaGreatDoor
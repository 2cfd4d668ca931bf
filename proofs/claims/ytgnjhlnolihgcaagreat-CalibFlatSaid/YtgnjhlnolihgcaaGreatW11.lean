import Derived.Test.YtgnjhlnolihgcaaGreatW10
set_option maxHeartbeats 1000000
set_option maxRecDepth 100000
namespace Go.Proofs.YtgnjhlnolihgcaaGreat
open Lib renaming hid → lh
open Go.RowKit
theorem plus_ge (A1 A2:Option Addr) (l1 l2:List Nat) (c1 c2:Nat) (w:World) (hs1:Sl w A1 l1 c1) (hs2:Sl w A2 l2 c2) (hle:l2.length≤l1.length) (hlen:l1.length≤1000000) :
  Calls Tryz.prog 162 #[.slice A1 l1.length c1,.slice A2 l2.length c2] w (VRes (val l1+val l2) (l1.length+1) w):=by
 obtain ⟨i0,hi,hz0,hz1,hz2⟩:=info_parts info32;have hmk:=fun W=>q0n (P:=Tryz.prog) 44 146 i0 Tryz.underlying44 hi hz0 hz1 hz2 ((l1.length:Int)+1) ((l1.length:Int)+1) (l1.length+1) (l1.length+1) (by omega) (by omega) (Nat.le_refl _) (by omega) W;have Hs1:=lh hs1;have Hs2:=lh hs2;clear hs1 hs2 hi hz0 hz1 hz2;have hdec:decide (l1.length < l2.length)=false:=(by rw [decide_eq_false_iff_not]; omega);go_enter Tryz.func162,Tryz.ntmps162
 go_wp2
 go_loopw [6,7,8,9,23] (fun cy _ _ _ i wr=>∃ (k cr:Nat) (o:List Nat),k≤l1.length∧i=.int .i64 k∧cy=.int .u32 cr∧cr≤1∧o.length=l1.length+1∧Lim o∧Blk wr w.heap.size 146 o∧pv o k+cr * 4294967296 ^ k=pv l1 k+pv l2 k∧Below w.heap.size w wr) (fun _ _ _ _ i _=>l1.length - (intOf i).toNat)
 case atStart=>exact ⟨0,0,List.replicate (l1.length+1) 0,Nat.zero_le _,rfl,rfl,by omega,by simp,q0g _,Blk.zrow _ _ _,by simp [pv_zero],blw1 _ _⟩
 case round=>
  obtain ⟨k,cr,o,hk,rfl,rfl,hcr,hol,holim,hblk,hsum,hb⟩:=hrel;have Hol:=lh hol;have Hlim:=lh holim;have Hblk:=lh hblk;have Hsum:=lh hsum;have Hb:=lh hb;clear hol holim hblk hsum hb;by_cases hlt:k < l1.length
  ·obtain ⟨b1,o1,rfl,hx1⟩:=(Hs1.out.below Hb.out).rd.at_ (k:=k) hlt;have hx2:=q0e Hs1.out.lim k;have hy2:=q0e Hs2.out.lim k;have hcell:wr.cell? ⟨w.heap.size,k,none⟩=some (.int .u32 (o[k]?.getD 0:Nat)):=Hblk.out.cell (by rw [Hol.out]; omega);have hfr:wr.frozen? ⟨w.heap.size,k,none⟩=false:=Hblk.out.frozen k;have Hst:=lh (plus_step (by rw [Hol.out]; omega) Hsum.out);have Hq:Hid ((l1[k]?.getD 0+l2[k]?.getD 0+cr) / 4294967296≤1):=(by unfold Hid; omega);by_cases hlt2:k < l2.length
   ·obtain ⟨b2,o2,rfl,hy1⟩:=(Hs2.out.below Hb.out).rd.at_ (k:=k) hlt2;generalize l1[k]?.getD 0=x at *;generalize l2[k]?.getD 0=y at *;go_wp2_with fail
    refine (add32_any x y cr hx2 hy2 hcr _).mono ?_;rintro e w1 ⟨rfl,rfl⟩;go_wp2
    go_roundw
    case rel=>exact ⟨k+1,_,o.set k ((x+y+cr) % 4294967296),by omega,by go_num,rfl,Hq.out,by rw [List.length_set]; exact Hol.out,q1c Hlim.out (Nat.mod_lt _ (by omega)),Hblk.out.set_ _ _,Hst.out,Hb.out.setCell (p:=⟨w.heap.size,k,none⟩) (Nat.le_refl _) _⟩
    case measure=>simp [intOf]; omega
   ·have hy0:l2[k]?.getD 0=0:=(by rw [List.getElem?_eq_none (by omega)]; rfl);rw [hy0] at Hst Hq;clear hy0 hy2;generalize l1[k]?.getD 0=x at *;go_wp2_with fail
    refine (add32_any x 0 cr hx2 (by omega) hcr _).mono ?_;rintro e w1 ⟨rfl,rfl⟩;go_wp2
    go_roundw
    case rel=>exact ⟨k+1,_,o.set k ((x+0+cr) % 4294967296),by omega,by go_num,rfl,Hq.out,by rw [List.length_set]; exact Hol.out,q1c Hlim.out (Nat.mod_lt _ (by omega)),Hblk.out.set_ _ _,Hst.out,Hb.out.setCell (p:=⟨w.heap.size,k,none⟩) (Nat.le_refl _) _⟩
    case measure=>simp [intOf]; omega
  ·obtain rfl:k=l1.length:=by omega
   have hcell:wr.cell? ⟨w.heap.size,l1.length,none⟩=some (.int .u32 (o[l1.length]?.getD 0:Nat)):=Hblk.out.cell (by rw [Hol.out]; omega);have hfr:wr.frozen? ⟨w.heap.size,l1.length,none⟩=false:=Hblk.out.frozen _;have Hfin:=lh (plus_end (by rw [Hol.out]; omega) Hol.out (Nat.le_refl _) hle Hsum.out);have hblk2:=Hblk.out.set_ l1.length cr;have Hl2:Hid ((o.set l1.length cr).length=l1.length+1):=(by unfold Hid; rw [List.length_set]; exact Hol.out);have Hr2:=lh hblk2.rd;clear hblk2;go_wp2
   go_ret
   exact ⟨_,l1.length+1,o.set l1.length cr,by rw [Hl2.out]; rfl,⟨Hr2.out,q1c Hlim.out (by omega),by rw [Hl2.out]; exact Nat.le_refl _,by rw [Hl2.out]; omega⟩,Hfin.out,by rw [Hl2.out]; exact Nat.le_refl _,Hb.out.setCell (p:=⟨w.heap.size,l1.length,none⟩) (Nat.le_refl _) _⟩
theorem plus_lt (A1 A2:Option Addr) (l1 l2:List Nat) (c1 c2:Nat) (w:World) (hs1:Sl w A1 l1 c1) (hs2:Sl w A2 l2 c2) (hlt0:l1.length < l2.length) (hlen:l2.length≤1000000) :
  Calls Tryz.prog 162 #[.slice A1 l1.length c1,.slice A2 l2.length c2] w (VRes (val l1+val l2) (l2.length+1) w):=by
 obtain ⟨i0,hi,hz0,hz1,hz2⟩:=info_parts info32;have hmk:=fun W=>q0n (P:=Tryz.prog) 44 146 i0 Tryz.underlying44 hi hz0 hz1 hz2 ((l2.length:Int)+1) ((l2.length:Int)+1) (l2.length+1) (l2.length+1) (by omega) (by omega) (Nat.le_refl _) (by omega) W;have hle:l1.length≤l2.length:=(by omega);have Hs1:=lh hs1;have Hs2:=lh hs2;clear hs1 hs2 hi hz0 hz1 hz2;have hdec:decide (l1.length < l2.length)=true:=(by rw [decide_eq_true_iff]; omega);go_enter Tryz.func162,Tryz.ntmps162
 go_wp2
 go_loopw [6,7,8,9,23] (fun cy _ _ _ i wr=>∃ (k cr:Nat) (o:List Nat),k≤l2.length∧i=.int .i64 k∧cy=.int .u32 cr∧cr≤1∧o.length=l2.length+1∧Lim o∧Blk wr w.heap.size 146 o∧pv o k+cr * 4294967296 ^ k=pv l2 k+pv l1 k∧Below w.heap.size w wr) (fun _ _ _ _ i _=>l2.length - (intOf i).toNat)
 case atStart=>exact ⟨0,0,List.replicate (l2.length+1) 0,Nat.zero_le _,rfl,rfl,by omega,by simp,q0g _,Blk.zrow _ _ _,by simp [pv_zero],blw1 _ _⟩
 case round=>
  obtain ⟨k,cr,o,hk,rfl,rfl,hcr,hol,holim,hblk,hsum,hb⟩:=hrel;have Hol:=lh hol;have Hlim:=lh holim;have Hblk:=lh hblk;have Hsum:=lh hsum;have Hb:=lh hb;clear hol holim hblk hsum hb;by_cases hlt:k < l2.length
  ·obtain ⟨b1,o1,rfl,hx1⟩:=(Hs2.out.below Hb.out).rd.at_ (k:=k) hlt;have hx2:=q0e Hs2.out.lim k;have hy2:=q0e Hs1.out.lim k;have hcell:wr.cell? ⟨w.heap.size,k,none⟩=some (.int .u32 (o[k]?.getD 0:Nat)):=Hblk.out.cell (by rw [Hol.out]; omega);have hfr:wr.frozen? ⟨w.heap.size,k,none⟩=false:=Hblk.out.frozen k;have Hst:=lh (plus_step (by rw [Hol.out]; omega) Hsum.out);have Hq:Hid ((l2[k]?.getD 0+l1[k]?.getD 0+cr) / 4294967296≤1):=(by unfold Hid; omega);by_cases hlt2:k < l1.length
   ·obtain ⟨b2,o2,rfl,hy1⟩:=(Hs1.out.below Hb.out).rd.at_ (k:=k) hlt2;generalize l2[k]?.getD 0=x at *;generalize l1[k]?.getD 0=y at *;go_wp2_with fail
    refine (add32_any x y cr hx2 hy2 hcr _).mono ?_;rintro e w1 ⟨rfl,rfl⟩;go_wp2
    go_roundw
    case rel=>exact ⟨k+1,_,o.set k ((x+y+cr) % 4294967296),by omega,by go_num,rfl,Hq.out,by rw [List.length_set]; exact Hol.out,q1c Hlim.out (Nat.mod_lt _ (by omega)),Hblk.out.set_ _ _,Hst.out,Hb.out.setCell (p:=⟨w.heap.size,k,none⟩) (Nat.le_refl _) _⟩
    case measure=>simp [intOf]; omega
   ·have hy0:l1[k]?.getD 0=0:=(by rw [List.getElem?_eq_none (by omega)]; rfl);rw [hy0] at Hst Hq;clear hy0 hy2;generalize l2[k]?.getD 0=x at *;go_wp2_with fail
    refine (add32_any x 0 cr hx2 (by omega) hcr _).mono ?_;rintro e w1 ⟨rfl,rfl⟩;go_wp2
    go_roundw
    case rel=>exact ⟨k+1,_,o.set k ((x+0+cr) % 4294967296),by omega,by go_num,rfl,Hq.out,by rw [List.length_set]; exact Hol.out,q1c Hlim.out (Nat.mod_lt _ (by omega)),Hblk.out.set_ _ _,Hst.out,Hb.out.setCell (p:=⟨w.heap.size,k,none⟩) (Nat.le_refl _) _⟩
    case measure=>simp [intOf]; omega
  ·obtain rfl:k=l2.length:=by omega
   have hcell:wr.cell? ⟨w.heap.size,l2.length,none⟩=some (.int .u32 (o[l2.length]?.getD 0:Nat)):=Hblk.out.cell (by rw [Hol.out]; omega);have hfr:wr.frozen? ⟨w.heap.size,l2.length,none⟩=false:=Hblk.out.frozen _;have Hfin:=lh (plus_end (by rw [Hol.out]; omega) Hol.out (Nat.le_refl _) hle Hsum.out);have hblk2:=Hblk.out.set_ l2.length cr;have Hl2:Hid ((o.set l2.length cr).length=l2.length+1):=(by unfold Hid; rw [List.length_set]; exact Hol.out);have Hr2:=lh hblk2.rd;clear hblk2;go_wp2
   go_ret
   exact ⟨_,l2.length+1,o.set l2.length cr,by rw [Hl2.out]; rfl,⟨Hr2.out,q1c Hlim.out (by omega),by rw [Hl2.out]; exact Nat.le_refl _,by rw [Hl2.out]; omega⟩,by rw [Hfin.out,Nat.add_comm],by rw [Hl2.out]; exact Nat.le_refl _,Hb.out.setCell (p:=⟨w.heap.size,l2.length,none⟩) (Nat.le_refl _) _⟩
theorem plus_any (A1 A2:Option Addr) (l1 l2:List Nat) (c1 c2:Nat) (w:World) (hs1:Sl w A1 l1 c1) (hs2:Sl w A2 l2 c2) (h1:l1.length≤1000000) (h2:l2.length≤1000000) :
  Calls Tryz.prog 162 #[.slice A1 l1.length c1,.slice A2 l2.length c2] w (VRes (val l1+val l2) (max l1.length l2.length+1) w):=by
 by_cases h:l1.length < l2.length
 ·rw [Nat.max_eq_right (by omega)];exact plus_lt A1 A2 l1 l2 c1 c2 w hs1 hs2 h h2
 ·rw [Nat.max_eq_left (by omega)];exact plus_ge A1 A2 l1 l2 c1 c2 w hs1 hs2 (by omega) h1
end Go.Proofs.YtgnjhlnolihgcaaGreat
namespace Go.Proofs.YtgnjhlnolihgcaaGreat
open Lib renaming hid → lh
open Go.RowKit
theorem minus_any (A1 A2:Option Addr) (l1 l2:List Nat) (c1 c2:Nat) (w:World) (hs1:Sl w A1 l1 c1) (hs2:Sl w A2 l2 c2) (hle:l2.length≤l1.length) (hlen:l1.length≤1000000) (hval:val l2≤val l1) :
  Calls Tryz.prog 163 #[.slice A1 l1.length c1,.slice A2 l2.length c2] w (VRes (val l1 - val l2) l1.length w):=by
 obtain ⟨i0,hi,hz0,hz1,hz2⟩:=info_parts info32;have hmk:=fun W=>q0n (P:=Tryz.prog) 44 146 i0 Tryz.underlying44 hi hz0 hz1 hz2 (l1.length:Int) (l1.length:Int) l1.length l1.length rfl rfl (Nat.le_refl _) (by omega) W;have Hs1:=lh hs1;have Hs2:=lh hs2;have Hval:=lh hval;clear hs1 hs2 hi hz0 hz1 hz2 hval;go_enter Tryz.func163,Tryz.ntmps163
 go_wp2
 go_loopw [6,7,8,9,15] (fun cy _ _ _ i wr=>∃ (k cr:Nat) (o:List Nat),k≤l1.length∧i=.int .i64 k∧cy=.int .u32 cr∧cr≤1∧o.length=l1.length∧Lim o∧Blk wr w.heap.size 146 o∧pv o k+pv l2 k=pv l1 k+cr * 4294967296 ^ k∧Below w.heap.size w wr) (fun _ _ _ _ i _=>l1.length - (intOf i).toNat)
 case atStart=>exact ⟨0,0,List.replicate l1.length 0,Nat.zero_le _,rfl,rfl,by omega,by simp,q0g _,Blk.zrow _ _ _,by simp [pv_zero],blw1 _ _⟩
 case round=>
  obtain ⟨k,cr,o,hk,rfl,rfl,hcr,hol,holim,hblk,hsum,hb⟩:=hrel;have Hol:=lh hol;have Hlim:=lh holim;have Hblk:=lh hblk;have Hsum:=lh hsum;have Hb:=lh hb;clear hol holim hblk hsum hb;by_cases hlt:k < l1.length
  ·obtain ⟨b1,o1,rfl,hx1⟩:=(Hs1.out.below Hb.out).rd.at_ (k:=k) hlt;have hx2:=q0e Hs1.out.lim k;have hy2:=q0e Hs2.out.lim k;have hcell:wr.cell? ⟨w.heap.size,k,none⟩=some (.int .u32 (o[k]?.getD 0:Nat)):=Hblk.out.cell (by rw [Hol.out]; omega);have hfr:wr.frozen? ⟨w.heap.size,k,none⟩=false:=Hblk.out.frozen k;have Hst:=lh (minus_step (o:=o) (by rw [Hol.out]; omega) (sub_eq hx2 hy2 hcr) Hsum.out);have Hq:Hid (subB (l1[k]?.getD 0) (l2[k]?.getD 0) cr≤1):=(by unfold Hid subB; split <;> omega);by_cases hlt2:k < l2.length
   ·obtain ⟨b2,o2,rfl,hy1⟩:=(Hs2.out.below Hb.out).rd.at_ (k:=k) hlt2;generalize l1[k]?.getD 0=x at *;generalize l2[k]?.getD 0=y at *;go_wp2_with fail
    refine (sub32_any x y cr hx2 hy2 hcr _).mono ?_;rintro e w1 ⟨rfl,rfl⟩;go_wp2
    go_roundw
    case rel=>exact ⟨k+1,_,o.set k ((x+8589934592 - y - cr) % 4294967296),by omega,by go_num,rfl,Hq.out,by rw [List.length_set]; exact Hol.out,q1c Hlim.out (Nat.mod_lt _ (by omega)),Hblk.out.set_ _ _,Hst.out,Hb.out.setCell (p:=⟨w.heap.size,k,none⟩) (Nat.le_refl _) _⟩
    case measure=>simp [intOf]; omega
   ·have hy0:l2[k]?.getD 0=0:=(by rw [List.getElem?_eq_none (by omega)]; rfl);rw [hy0] at Hst Hq;clear hy0 hy2;generalize l1[k]?.getD 0=x at *;go_wp2_with fail
    refine (sub32_any x 0 cr hx2 (by omega) hcr _).mono ?_;rintro e w1 ⟨rfl,rfl⟩;go_wp2
    go_roundw
    case rel=>exact ⟨k+1,_,o.set k ((x+8589934592 - 0 - cr) % 4294967296),by omega,by go_num,rfl,Hq.out,by rw [List.length_set]; exact Hol.out,q1c Hlim.out (Nat.mod_lt _ (by omega)),Hblk.out.set_ _ _,Hst.out,Hb.out.setCell (p:=⟨w.heap.size,k,none⟩) (Nat.le_refl _) _⟩
    case measure=>simp [intOf]; omega
  ·obtain rfl:k=l1.length:=by omega
   have Hfin:=lh (minus_end Hol.out Hlim.out (Nat.le_refl _) hle Hval.out Hsum.out);have Hr2:=lh Hblk.out.rd;go_wp2
   go_ret
   exact ⟨_,l1.length,o,by rw [Hol.out]; rfl,⟨Hr2.out,Hlim.out,by rw [Hol.out]; exact Nat.le_refl _,by rw [Hol.out]; omega⟩,Hfin.out,by rw [Hol.out]; exact Nat.le_refl _,Hb.out⟩
end Go.Proofs.YtgnjhlnolihgcaaGreat
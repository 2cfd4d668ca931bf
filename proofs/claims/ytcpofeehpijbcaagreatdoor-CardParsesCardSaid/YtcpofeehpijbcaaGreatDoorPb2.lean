import Derived.Test.YtcpofeehpijbcaaGreatDoorPb1
set_option maxHeartbeats 4000000
set_option maxRecDepth 100000
namespace Go.Proofs.YtcpofeehpijbcaaGreatDoor
open Go.RowKit Go.Lib Go.Shelf
attribute [local go_sem ↓] Go.wp_at_zero Go.wp_at_succ
theorem rsame8_q (cs:List CD) (A1 A2:Option Addr) (B1 B2 c1 c2:Nat) (w:World) (h1:SlG w B1 A1 cs c1) (h2:SlG w B2 A2 cs c2) :
  Calls Tryz.prog 12 #[.slice A1 cs.length c1,.slice A2 cs.length c2] w fun e w'=>e=.returned (.bool true)∧∃ m,w'=w.drewN m:=by
 have S1:=Lib.hid h1;have S2:=Lib.hid h2;have hl:=h1.len;clear h1 h2;go_enter Tryz.func12,Tryz.ntmps12
 go_wp2
 go_loopw [5] (fun s5 wz=>∃ i:Nat,i≤cs.length∧s5=.int .i64 i∧∃ m,wz=w.drewN m) (fun v _=>cs.length - (RowKit.intOf v).toNat)
 case atStart=>exact ⟨0,Nat.zero_le _,rfl,0,rfl⟩
 case round=>
  obtain ⟨i,hi,rfl,m,hm⟩:=hrel;have B0:Hid (Below w.heap.size w wr):=(by rw [hm]; exact below_drewN (Below.refl _ _) m);have HM:=Lib.hid hm;clear hm;by_cases hlt:i < cs.length
  ·have tk:decide ((i:Int) < (cs.length:Int))=true:=decide_eq_true (by omega);have tn:decide ((0:Int)≤(i:Int))=true:=decide_eq_true (by omega);have i2:IntKind.i64.wrap ((i:Int)+1)=(i:Int)+1:=IntWalk.i64_in _ (by omega);have SA:=Lib.hid (S1.out.below B0.out);have SB:=Lib.hid (S2.out.below B0.out);obtain ⟨b,q,rfl,-,q0,q1,q2,q3,q4,q5,q6,-⟩:=SA.out.at_ hlt;obtain ⟨b',q',rfl,-,p0,p1,p2,p3,p4,p5,p6,-⟩:=SB.out.at_ hlt;clear SA SB;generalize cs[i]=x at *;go_wp2
   go_quiet (fail)
   go_wp2
   go_roundw
   case rel=>exact ⟨i+1,by omega,by go_num,m+nq,by rw [HM.out,World.drewN_drewN]⟩
   case measure=>simp [RowKit.intOf]; omega
  ·have tk:decide ((i:Int) < (cs.length:Int))=false:=decide_eq_false (by omega);go_wp2
   go_ret
   exact ⟨rfl,m,HM.out⟩
end Go.Proofs.YtcpofeehpijbcaaGreatDoor
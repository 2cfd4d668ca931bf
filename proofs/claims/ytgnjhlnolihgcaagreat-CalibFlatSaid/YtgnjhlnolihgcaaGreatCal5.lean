import Derived.Test.YtgnjhlnolihgcaaGreatRegI
import Derived.Test.YtgnjhlnolihgcaaGreatCal2
set_option maxHeartbeats 2000000
set_option maxRecDepth 100000
namespace Go.Proofs.YtgnjhlnolihgcaaGreat
open Go.RowKit
attribute [local go_sem ↓] Go.wp_at_zero Go.wp_at_succ
def cB (l:List Bool):List Value:=l.map Value.bool
theorem cB_length (l:List Bool):(cB l).length=l.length:=by simp [cB]
structure SlO (w:World) (B:Nat) (A:Option Addr) (l:List Bool) (c:Nat):Prop where
 rd:RdV w B A (cB l)
 le:l.length≤c
 len:l.length≤17592186044416
theorem SlO.below {w w':World} {B:Nat} {A:Option Addr} {l:List Bool} {c:Nat} (h:SlO w B A l c) (hb:Below w.heap.size w w'):SlO w' B A l c:=⟨h.rd.below hb,h.le,h.len⟩
theorem SlO.nil (w:World) (B:Nat) (A:Option Addr) (c:Nat):SlO w B A [] c:=⟨RdV.nil _ _ _,Nat.zero_le _,Nat.zero_le _⟩
theorem SlO.at_ {w:World} {B:Nat} {A:Option Addr} {l:List Bool} {c k:Nat} (h:SlO w B A l c) (hk:k < l.length):∃ b o,A=some ⟨b,o,none⟩∧b < B∧w.cell? ⟨b,o+k,none⟩=some (.bool (l[k]'hk)):=by
 obtain ⟨b,o,e,hB,hc⟩:=h.rd.at_ (k:=k) (by rw [cB_length]; exact hk);exact ⟨b,o,e,hB,hc.trans (by simp [cB])⟩
theorem csame_eq (W H:Int) (A1 A2:Option Addr) (l:List Int) (c1 c2 B1 B2:Nat) (w:World) (hs1:SlI w B1 A1 l c1) (hs2:SlI w B2 A2 l c2) :
  Calls Tryz.prog 19 #[.agg #[.int .i64 W,.int .i64 H,.slice A1 l.length c1],.agg #[.int .i64 W,.int .i64 H,.slice A2 l.length c2]] w fun e w'=>e=.returned (.bool true)∧Below w.heap.size w w':=by
 have hm:=hs1.len;have S1:=Lib.hid hs1;have S2:=Lib.hid hs2;have t1:(W != W)=false:=(by simp);have t2:(H != H)=false:=(by simp);have t3:((l.length:Int) != (l.length:Int))=false:=(by simp);clear hs1 hs2;go_enter Tryz.func19,Tryz.ntmps19
 go_wp2
 generalize hwz:(w.alloc (.cells #[.int .i64 W,.int .i64 H,.slice A1 l.length c1] 53)).alloc (.cells #[.int .i64 W,.int .i64 H,.slice A2 l.length c2] 53)=wz at *;have K1:Hid (BlkV wz w.heap.size 53 #[.int .i64 W,.int .i64 H,.slice A1 l.length c1]):=(by rw [← hwz]; exact (BlkV.fresh rfl _ _).alloc _);have K2:Hid (BlkV wz (w.heap.size+1) 53 #[.int .i64 W,.int .i64 H,.slice A2 l.length c2]):=(by rw [← hwz]; exact BlkV.fresh (by simp) _ _);have HB:Hid (Below w.heap.size w wz):=(by rw [← hwz]; exact q0a (blw1 _ _) (blw1 _ _));have R1:Hid (SlI wz B1 A1 l c1):=(by rw [← hwz]; exact (S1.out.alloc _).alloc _);have R2:Hid (SlI wz B2 A2 l c2):=(by rw [← hwz]; exact (S2.out.alloc _).alloc _);clear hwz;have k1:wz.cell? ⟨w.heap.size,2,none⟩=some (.slice A1 l.length c1):=K1.out.at_ 2 rfl;have k2:wz.cell? ⟨w.heap.size+1,2,none⟩=some (.slice A2 l.length c2):=K2.out.at_ 2 rfl;go_loopw [5] (fun s5 wr=>∃ k n:Nat,k≤l.length∧s5=.int .i64 k∧wr=wz.drewN n) (fun v _=>l.length - (intOf v).toNat)
 case atStart=>exact ⟨0,0,Nat.zero_le _,rfl,rfl⟩
 case round=>
  obtain ⟨k,n,hk,rfl,rfl⟩:=hrel;by_cases hlt:k < l.length
  ·obtain ⟨b1,o1,rfl,-,q1⟩:=R1.out.at_ (k:=k) hlt;obtain ⟨b2,o2,rfl,-,q2⟩:=R2.out.at_ (k:=k) hlt;generalize l[k]'hlt=x at *;have t4:(x != x)=false:=(by simp);go_wp2_with fail
   go_quiet (fail)
   go_wp2
   go_roundw
   case rel=>exact ⟨k+1,_,by omega,by go_num,rfl⟩
   case measure=>simp [intOf]; omega
  ·obtain rfl:k=l.length:=by omega
   go_wp2
   go_ret
   exact ⟨rfl,below_drewN HB.out _⟩
theorem csameb_eq (A1 A2:Option Addr) (l:List Bool) (c1 c2 B1 B2:Nat) (w:World) (hs1:SlO w B1 A1 l c1) (hs2:SlO w B2 A2 l c2) :
  Calls Tryz.prog 29 #[.slice A1 l.length c1,.slice A2 l.length c2] w fun e w'=>e=.returned (.bool true)∧Below w.heap.size w w':=by
 have hm:=hs1.len;have R1:=Lib.hid hs1;have R2:=Lib.hid hs2;have t3:((l.length:Int) != (l.length:Int))=false:=(by simp);clear hs1 hs2;go_enter Tryz.func29,Tryz.ntmps29
 go_wp2
 go_loopw [5] (fun s5 wr=>∃ k n:Nat,k≤l.length∧s5=.int .i64 k∧wr=w.drewN n) (fun v _=>l.length - (intOf v).toNat)
 case atStart=>exact ⟨0,0,Nat.zero_le _,rfl,rfl⟩
 case round=>
  obtain ⟨k,n,hk,rfl,rfl⟩:=hrel;by_cases hlt:k < l.length
  ·obtain ⟨b1,o1,rfl,-,q1⟩:=R1.out.at_ (k:=k) hlt;obtain ⟨b2,o2,rfl,-,q2⟩:=R2.out.at_ (k:=k) hlt;generalize l[k]'hlt=x at *;have t4:(x != x)=false:=(by simp);go_wp2_with fail
   go_quiet (fail)
   go_wp2
   go_roundw
   case rel=>exact ⟨k+1,_,by omega,by go_num,rfl⟩
   case measure=>simp [intOf]; omega
  ·obtain rfl:k=l.length:=by omega
   go_wp2
   go_ret
   exact ⟨rfl,below_drewN (Below.refl _ _) _⟩
theorem cgreat1_any (f:FD) (hm:f.l.length≤17592186044416) (w:World) :
  Calls Tryz.prog 45 #[.agg #[.int .i64 f.W,.int .i64 f.H,.slice f.A f.l.length f.c]] w fun e w'=>e=.returned (.bool (decide (100 < f.l.length)))∧Below w.heap.size w w':=by
 by_cases h:100 < f.l.length
 ·have t1:decide (100 < f.l.length)=true:=decide_eq_true h;have t2:decide ((100:Int) < (f.l.length:Int))=true:=decide_eq_true (by omega);rw [t1];clear h;go_enter Tryz.func45,Tryz.ntmps45
  go_wp2
  go_ret
  exact ⟨rfl,blw1 _ _⟩
 ·have t1:decide (100 < f.l.length)=false:=decide_eq_false h;have t2:decide ((100:Int) < (f.l.length:Int))=false:=decide_eq_false (by omega);rw [t1];clear h;go_enter Tryz.func45,Tryz.ntmps45
  go_wp2
  go_ret
  exact ⟨rfl,blw1 _ _⟩
end Go.Proofs.YtgnjhlnolihgcaaGreat
import Derived.Test.YtcpofeehpijbcaaGreatDoorMg9
import Derived.Test.YtcpofeehpijbcaaGreatDoorPa9
set_option maxHeartbeats 16000000
set_option maxRecDepth 100000
namespace Go.Proofs.YtcpofeehpijbcaaGreatDoor
open Go.RowKit Go.Lib Go.Shelf
attribute [local go_sem ↓] Go.wp_at_zero Go.wp_at_succ
def repN (s:List UInt8) (n:Nat):List UInt8:=(List.replicate n s).flatten
theorem repN_step (s:List UInt8) (n:Nat):repN s (n+1)=repN s n ++ s:=by
 unfold repN;rw [List.replicate_succ',List.flatten_append];simp
theorem repN_len (s:List UInt8) (n:Nat):(repN s n).length=n * s.length:=by
 induction n with
 | zero=>simp [repN]
 | succ n ih=>rw [repN_step,List.length_append,ih,Nat.succ_mul]
theorem repN_one (c:UInt8) (n:Nat):repN [c] n=List.replicate n c:=by
 induction n with
 | zero=>rfl
 | succ n ih=>rw [repN_step,ih,← List.replicate_succ']
def blankC:CD:=⟨[],1,false,0,0,[],[]⟩
theorem readS_blank (n:Nat):readS (List.replicate (80 * (n+1)) 32)=some (blankC,List.replicate (80 * n) 32):=by
 have e8:(List.replicate (80 * (n+1)) (32:UInt8)).take 8=List.replicate 8 32:=(by rw [List.take_replicate,Nat.min_eq_left (by omega)]);have e80:(List.replicate (80 * (n+1)) (32:UInt8)).take 80=List.replicate 80 32:=(by rw [List.take_replicate,Nat.min_eq_left (by omega)]);have ed:(List.replicate (80 * (n+1)) (32:UInt8)).drop 80=List.replicate (80 * n) 32:=(by rw [List.drop_replicate,show 80 * (n+1) - 80=80 * n by omega]);rw [readS_eq,e8,e80,ed,if_pos (by decide)];rfl
theorem parN_blank:∀ (n f:Nat) (out:List CD),n≤f→parN (f+1) out (List.replicate (80 * n) 32)=some (out ++ List.replicate n blankC)
 | 0,f,out,_=>by
  rw [Nat.mul_zero,List.replicate_zero,parN_0,List.replicate_zero,List.append_nil]
 | n+1,f,out,h=>by
  obtain ⟨f,rfl⟩:∃ k,f=k+1:=⟨f - 1,by omega⟩;rw [parN_s _ _ _ (by intro e; have:=congrArg List.length e; simp at this),readS_blank];show (if chkC blankC=true then parN (f+1) (out ++ [blankC]) (List.replicate (80 * n) 32) else none)=_
  rw [if_pos (by kernel_rfl),parN_blank n f _ (by omega),List.append_assoc,List.replicate_succ];rfl
theorem parS_blank (n:Nat) (h:200 < n):parS (List.replicate (80 * n) 32)=([],4):=by
 have hp:prt (List.replicate (80 * n) 32)=true:=by
  unfold prt;rw [List.all_eq_true];intro b hb;rw [List.eq_of_mem_replicate hb];decide
 rw [parS_eq,if_pos ⟨by rw [List.length_replicate]; omega,hp⟩,parN_blank n _ [] (by rw [List.length_replicate]; omega)];unfold parE;dsimp only;rw [List.nil_append,List.length_replicate,if_pos h]
theorem q1e (s:List UInt8) (n:Nat) (hs:s.length≤10) (hn:n≤100000) (w:World) :
  Calls Tryz.prog 34 #[.string ⟨s.toArray⟩,.int .i64 n] w fun e w'=>e=.returned (.string ⟨(repN s n).toArray⟩)∧w'=w:=by
 have ss:(ByteArray.mk s.toArray).size=s.length:=(by simp [ByteArray.size]);have ST:=Lib.hid (fun k=>repN_step s k)
 have LE:Hid (∀ k,k≤n→(repN s k).length≤1000000):=fun k hk=>by
  rw [repN_len];exact Nat.le_trans (Nat.mul_le_mul (Nat.le_trans hk hn) hs) (by decide)
 go_enter Tryz.func34,Tryz.ntmps34
 go_wp2
 go_loopw [5,6] (fun s5 s6 wx=>∃ k:Nat,k≤n∧s6=.int .i64 k∧s5=.string ⟨(repN s k).toArray⟩∧wx=w) (fun _ v _=>n - (RowKit.intOf v).toNat)
 case atStart=>exact ⟨0,Nat.zero_le _,rfl,rfl,rfl⟩
 case round=>
  obtain ⟨k,hk,rfl,rfl,rfl⟩:=hrel;by_cases hlt:k < n
  ·have tk:decide ((k:Int) < (n:Int))=true:=decide_eq_true (by omega);have hst:=ST.out k;have hl1:=LE.out k hk;have hl2:=LE.out (k+1) hlt;rw [hst] at hl2;have HS:=Lib.hid hst;clear hst;generalize repN s k=m at *;have ms:(ByteArray.mk m.toArray).size=m.length:=(by simp [ByteArray.size]);have HA:=q0d m s;have i1:IntKind.i64.wrap ((k:Int)+1)=(k:Int)+1:=IntWalk.i64_in _ (by omega);rw [List.length_append] at hl2;go_wp2_with fail
   go_roundw
   case rel=>exact ⟨k+1,hlt,by go_num,by rw [HS.out],trivial⟩
   case measure=>simp [RowKit.intOf]; omega
  ·have tk:decide ((k:Int) < (n:Int))=false:=decide_eq_false (by omega);obtain rfl:k=n:=by omega
   go_wp2_with fail
   go_ret
   exact ⟨rfl,rfl⟩
theorem q0f (s:List UInt8) (hl:s.length≤80) (h:parS (padR s 80)=([],12)) (w:World) (hE:EnvP w) :
  Calls Tryz.prog 33 #[.string ⟨s.toArray⟩] w fun e w'=>e=.returned (.bool true)∧Below w.heap.size w w':=by
 have hp:=padR_len s 80;have FL:=Lib.hid (fill80_any s (by omega));have PA:=Lib.hid (parse_any (padR s 80) (by omega) w hE);rw [h] at PA;clear h hE;generalize padR s 80=q at *;go_enter Tryz.func33,Tryz.ntmps33
 go_wp2_with fail
 refine (FL.out _).mono ?_;rintro xx w1 ⟨rfl,rfl⟩;go_wp2_with fail
 refine PA.out.mono ?_;rintro xx w2 ⟨⟨A,c,rfl,hs⟩,hb⟩;have B0:=Lib.hid hb;clear hb hs PA FL;dsimp only [List.length_nil];go_wp2_with fail
 go_ret
 exact ⟨rfl,B0.out⟩
theorem put_bad (n:Nat) (A:Option Addr) (c0:Nat) (c:CD) (hc:OkK c) (hk:chkC c=false) (w:World) (hE:Env w) :
  Calls Tryz.prog 16 #[.slice A n c0,.agg #[.string ⟨c.k.toArray⟩,.int .u8 c.kd,.bool c.y,.int .i64 c.n,.int .i64 c.e,.string ⟨c.t.toArray⟩,.string ⟨c.o.toArray⟩]] w fun e w'=>e=.returned (.tuple #[.slice none 0 0,.int .i64 8])∧Below w.heap.size w w':=by
 have CK:=Lib.hid (fun W (h:Below w.heap.size w W)=>q0v c hc.ok hc.o hc.t hc.e W (hE.keep h));rw [hk,if_neg (by decide)] at CK;clear hc hk hE;obtain ⟨k,kd,y,nn,e,tx,o⟩:=c;dsimp only at *;have B0:Hid (Below w.heap.size w (w.alloc (.cells #[.string ⟨k.toArray⟩,.int .u8 kd,.bool y,.int .i64 nn,.int .i64 e,.string ⟨tx.toArray⟩,.string ⟨o.toArray⟩] 31))):=blw1 _ _;have K0:Hid (BlkV (w.alloc (.cells #[.string ⟨k.toArray⟩,.int .u8 kd,.bool y,.int .i64 nn,.int .i64 e,.string ⟨tx.toArray⟩,.string ⟨o.toArray⟩] 31)) w.heap.size 31 #[.string ⟨k.toArray⟩,.int .u8 kd,.bool y,.int .i64 nn,.int .i64 e,.string ⟨tx.toArray⟩,.string ⟨o.toArray⟩]):=BlkV.fresh rfl _ _;have a0:=K0.out.at_ 0 rfl;have a1:=K0.out.at_ 1 rfl;have a2:=K0.out.at_ 2 rfl;have a3:=K0.out.at_ 3 rfl;have a4:=K0.out.at_ 4 rfl;have a5:=K0.out.at_ 5 rfl;have a6:=K0.out.at_ 6 rfl;go_enter Tryz.func16,Tryz.ntmps16
 go_wp2_with fail
 refine (CK.out _ B0.out).mono ?_;rintro xx w1 ⟨rfl,hb⟩;replace B0:=Lib.hid (q0a B0.out hb);clear hb CK a0 a1 a2 a3 a4 a5 a6 K0;go_wp2_with fail
 exact bodyPost_ret (v:=.tuple #[.slice none 0 0,.int .i64 8]) (by simp [results,Tryz.results16,go_sem]) rfl ⟨rfl,B0.out⟩
theorem value_none (c:CD) (hc:OkK c) (hk:chkC c=true) (h5:c.kd=5) (w:World) (hE:Env w) :
  Calls Tryz.prog 18 #[.agg #[.string ⟨c.k.toArray⟩,.int .u8 c.kd,.bool c.y,.int .i64 c.n,.int .i64 c.e,.string ⟨c.t.toArray⟩,.string ⟨c.o.toArray⟩]] w fun e w'=>e=.returned (.tuple #[.agg #[.bool false,.slice none 0 0,.bool false,.slice none 0 0],.int .i64 6])∧Below w.heap.size w w':=by
 have CK:=Lib.hid (fun W (h:Below w.heap.size w W)=>q0v c hc.ok hc.o hc.t hc.e W (hE.keep h));rw [hk,if_pos rfl] at CK;clear hc hk hE;obtain ⟨k,kd,y,n,e,tx,o⟩:=c;dsimp only at *;subst h5;go_enter Tryz.func18,Tryz.ntmps18
 go_wp2_with fail
 have B0:Hid (Below w.heap.size w ((w.alloc (.cells #[.string ⟨k.toArray⟩,.int .u8 5,.bool y,.int .i64 n,.int .i64 e,.string ⟨tx.toArray⟩,.string ⟨o.toArray⟩] 31)).alloc (.cells #[.bool false,.slice none 0 0,.bool false,.slice none 0 0] 43))):=q0a (blw1 _ _) (blw1 _ _);have K0:Hid (BlkV ((w.alloc (.cells #[.string ⟨k.toArray⟩,.int .u8 5,.bool y,.int .i64 n,.int .i64 e,.string ⟨tx.toArray⟩,.string ⟨o.toArray⟩] 31)).alloc (.cells #[.bool false,.slice none 0 0,.bool false,.slice none 0 0] 43)) w.heap.size 31 #[.string ⟨k.toArray⟩,.int .u8 5,.bool y,.int .i64 n,.int .i64 e,.string ⟨tx.toArray⟩,.string ⟨o.toArray⟩]):=(BlkV.fresh rfl _ _).alloc _;have Q0:Hid (BlkV ((w.alloc (.cells #[.string ⟨k.toArray⟩,.int .u8 5,.bool y,.int .i64 n,.int .i64 e,.string ⟨tx.toArray⟩,.string ⟨o.toArray⟩] 31)).alloc (.cells #[.bool false,.slice none 0 0,.bool false,.slice none 0 0] 43)) (w.heap.size+1) 43 #[.bool false,.slice none 0 0,.bool false,.slice none 0 0]):=BlkV.fresh (by simp) _ _;refine (CK.out _ B0.out).mono ?_;rintro xx w1 ⟨rfl,hb⟩;replace B0:=Lib.hid (q0a B0.out hb);replace K0:=Lib.hid (K0.out.keep hb);replace Q0:=Lib.hid (Q0.out.keep hb);clear hb CK;have a0:=K0.out.at_ 0 rfl;have a1:=K0.out.at_ 1 rfl;have a2:=K0.out.at_ 2 rfl;have a3:=K0.out.at_ 3 rfl;have a4:=K0.out.at_ 4 rfl;have a5:=K0.out.at_ 5 rfl;have a6:=K0.out.at_ 6 rfl;have b0:=Q0.out.at_ 0 rfl;have b1:=Q0.out.at_ 1 rfl;have b2:=Q0.out.at_ 2 rfl;have b3:=Q0.out.at_ 3 rfl;have c0:=Q0.out.frozen 0;have c1:=Q0.out.frozen 1;have c2:=Q0.out.frozen 2;have c3:=Q0.out.frozen 3;have Q1:Hid (BlkV (w1.setCell ⟨w.heap.size+1,0,none⟩ (.bool false)) (w.heap.size+1) 43 #[.bool false,.slice none 0 0,.bool false,.slice none 0 0]):=Q0.out.put 0 (.bool false) rfl;have B1:Hid (Below w.heap.size w (w1.setCell ⟨w.heap.size+1,0,none⟩ (.bool false))):=B0.out.setCell (p:=⟨w.heap.size+1,0,none⟩) (Nat.le_succ _) (.bool false);have Q2:Hid (BlkV ((w1.setCell ⟨w.heap.size+1,0,none⟩ (.bool false)).setCell ⟨w.heap.size+1,1,none⟩ (.slice none 0 0)) (w.heap.size+1) 43 #[.bool false,.slice none 0 0,.bool false,.slice none 0 0]):=Q1.out.put 1 (.slice none 0 0) rfl;have B2:Hid (Below w.heap.size w ((w1.setCell ⟨w.heap.size+1,0,none⟩ (.bool false)).setCell ⟨w.heap.size+1,1,none⟩ (.slice none 0 0))):=B1.out.setCell (p:=⟨w.heap.size+1,1,none⟩) (Nat.le_succ _) (.slice none 0 0);have Q3:Hid (BlkV (((w1.setCell ⟨w.heap.size+1,0,none⟩ (.bool false)).setCell ⟨w.heap.size+1,1,none⟩ (.slice none 0 0)).setCell ⟨w.heap.size+1,2,none⟩ (.bool false)) (w.heap.size+1) 43 #[.bool false,.slice none 0 0,.bool false,.slice none 0 0]):=Q2.out.put 2 (.bool false) rfl;have B3:Hid (Below w.heap.size w (((w1.setCell ⟨w.heap.size+1,0,none⟩ (.bool false)).setCell ⟨w.heap.size+1,1,none⟩ (.slice none 0 0)).setCell ⟨w.heap.size+1,2,none⟩ (.bool false))):=B2.out.setCell (p:=⟨w.heap.size+1,2,none⟩) (Nat.le_succ _) (.bool false);have Q4:Hid (BlkV ((((w1.setCell ⟨w.heap.size+1,0,none⟩ (.bool false)).setCell ⟨w.heap.size+1,1,none⟩ (.slice none 0 0)).setCell ⟨w.heap.size+1,2,none⟩ (.bool false)).setCell ⟨w.heap.size+1,3,none⟩ (.slice none 0 0)) (w.heap.size+1) 43 #[.bool false,.slice none 0 0,.bool false,.slice none 0 0]):=Q3.out.put 3 (.slice none 0 0) rfl;have B4:Hid (Below w.heap.size w ((((w1.setCell ⟨w.heap.size+1,0,none⟩ (.bool false)).setCell ⟨w.heap.size+1,1,none⟩ (.slice none 0 0)).setCell ⟨w.heap.size+1,2,none⟩ (.bool false)).setCell ⟨w.heap.size+1,3,none⟩ (.slice none 0 0))):=B3.out.setCell (p:=⟨w.heap.size+1,3,none⟩) (Nat.le_succ _) (.slice none 0 0);go_wp2
 have r0:=Q4.out.at_ 0 rfl;have r1:=Q4.out.at_ 1 rfl;have r2:=Q4.out.at_ 2 rfl;have r3:=Q4.out.at_ 3 rfl;exact bodyPost_ret (v:=.tuple #[.agg #[.bool false,.slice none 0 0,.bool false,.slice none 0 0],.int .i64 6]) (by simp [results,Tryz.results18,go_sem,r0,r1,r2,r3]) rfl ⟨rfl,B4.out⟩
theorem print_many (n:Nat) (A:Option Addr) (c0:Nat) (hn:200 < n) (w:World) :
  Calls Tryz.prog 35 #[.slice A n c0] w fun e w'=>e=.returned (.tuple #[.string ⟨#[]⟩,.int .i64 4])∧Below w.heap.size w w':=by
 have d1:decide ((200:Int) < (n:Int))=true:=decide_eq_true (by omega);have d2:decide (200 < n)=true:=decide_eq_true hn;go_enter Tryz.func35,Tryz.ntmps35
 go_wp2_with fail
 exact bodyPost_ret (v:=.tuple #[.string ⟨#[]⟩,.int .i64 4]) (by simp [results,Tryz.results35,go_sem]) rfl ⟨rfl,Below.refl _ _⟩
end Go.Proofs.YtcpofeehpijbcaaGreatDoor
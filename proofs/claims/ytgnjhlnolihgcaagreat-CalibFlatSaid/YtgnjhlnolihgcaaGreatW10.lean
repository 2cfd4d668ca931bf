import Derived.Test.YtgnjhlnolihgcaaGreatW1
set_option maxHeartbeats 2000000
set_option maxRecDepth 100000
namespace Go.Proofs.YtgnjhlnolihgcaaGreat
open Lib renaming hid → lh
open Go.RowKit
def U64 (n:Nat):Prop:=n < 18446744073709551616
theorem ret_ii {k k':IntKind} {a b a' b':Int} (h:a=a') (h':b=b'):Ending.returned (.tuple #[.int k a,.int k' b])=.returned (.tuple #[.int k a',.int k' b']):=by rw [h,h']
theorem add32_any (x y c:Nat) (hx:x < 4294967296) (hy:y < 4294967296) (hc:c≤1) (w:World) :
  Calls Tryz.prog 192 #[.int .u32 x,.int .u32 y,.int .u32 c] w fun e w'=>e=.returned (.tuple #[.int .u32 ((x+y+c) % 4294967296:Nat),.int .u32 ((x+y+c) / 4294967296:Nat)])∧w=w':=by
 go_enter Tryz.func192,Tryz.ntmps192
 go_wp2
 go_ret2
 exact ⟨by simp,rfl⟩
def subB (x y c:Nat):Nat:=if x < y+c then 1 else 0
theorem tb31 {v:Nat} (h:v < 4294967296):v / 2147483648=(v.testBit 31).toNat:=by
 rw [Nat.testBit_eq_decide_div_mod_eq];by_cases h1:v / 2 ^ 31 % 2=1
 ·rw [decide_eq_true h1]; simp only [Bool.toNat_true]; omega
 ·rw [decide_eq_false h1]; simp only [Bool.toNat_false]; omega
theorem borrow32 (x y c:Nat) (hx:x < 4294967296) (hy:y < 4294967296) (hc:c≤1) :
  (((4294967295 ^^^ x) &&& y) ||| ((4294967295 ^^^ (x ^^^ y)) &&& ((x+8589934592 - y - c) % 4294967296))) / 2147483648=subB x y c:=by
 have hd:(x+8589934592 - y - c) % 4294967296 < 4294967296:=Nat.mod_lt _ (by omega)
 have hN:(((4294967295 ^^^ x) &&& y) ||| ((4294967295 ^^^ (x ^^^ y)) &&& ((x+8589934592 - y - c) % 4294967296))) < 4294967296:=
  Nat.or_lt_two_pow (n:=32) (Nat.and_lt_two_pow _ hy) (Nat.and_lt_two_pow _ hd)
 rw [tb31 hN];have hm:Nat.testBit 4294967295 31=true:=(by decide);have h1:=tb31 hx;have h2:=tb31 hy;have h3:=tb31 hd;simp only [Nat.testBit_or,Nat.testBit_and,Nat.testBit_xor,hm];generalize x.testBit 31=bx at *;generalize y.testBit 31=by_ at *;generalize ((x+8589934592 - y - c) % 4294967296).testBit 31=bd at *;unfold subB;cases bx <;> cases by_ <;> cases bd <;> simp at h1 h2 h3 ⊢ <;> omega
theorem sub32_int (x y c:Nat) (hx:x < 4294967296) (hy:y < 4294967296) (hc:c≤1) :
  bits BinOp.or IntKind.u32 (bits BinOp.and IntKind.u32 (bits BinOp.xor IntKind.u32 IntKind.u32.max ↑x) ↑y) (bits BinOp.and IntKind.u32 (bits BinOp.xor IntKind.u32 IntKind.u32.max (bits BinOp.xor IntKind.u32 ↑x ↑y)) (((x:Int) - ↑y - ↑c) % 4294967296)) / 2147483648=((subB x y c:Nat):Int):=by
 have hM:IntKind.u32.max=((4294967295:Nat):Int):=rfl;have hD:((x:Int) - y - c) % 4294967296=(((x+8589934592 - y - c) % 4294967296:Nat):Int):=(by omega);have l1:4294967295 ^^^ x < 2 ^ 32:=Nat.xor_lt_two_pow (by omega) (by omega);have l2:x ^^^ y < 2 ^ 32:=Nat.xor_lt_two_pow (by omega) (by omega);have l3:4294967295 ^^^ (x ^^^ y) < 2 ^ 32:=Nat.xor_lt_two_pow (by omega) l2;have l4:(x+8589934592 - y - c) % 4294967296 < 4294967296:=Nat.mod_lt _ (by omega);have l5:(4294967295 ^^^ x) &&& y < 2 ^ 32:=Nat.and_lt_two_pow _ (by omega);have l6:(4294967295 ^^^ (x ^^^ y)) &&& ((x+8589934592 - y - c) % 4294967296) < 2 ^ 32:=Nat.and_lt_two_pow _ (by omega);rw [hM,hD,u32_xor_nat 4294967295 x (by omega) (by omega),u32_xor_nat x y (by omega) (by omega),u32_xor_nat 4294967295 (x ^^^ y) (by omega) (by omega),u32_and_nat _ _ (by omega) (by omega),u32_and_nat _ _ (by omega) (by omega),u32_or_nat _ _ (by omega) (by omega),← borrow32 x y c hx hy hc];omega
theorem sub32_any (x y c:Nat) (hx:x < 4294967296) (hy:y < 4294967296) (hc:c≤1) (w:World) :
  Calls Tryz.prog 193 #[.int .u32 x,.int .u32 y,.int .u32 c] w fun e w'=>e=.returned (.tuple #[.int .u32 ((x+8589934592 - y - c) % 4294967296:Nat),.int .u32 (subB x y c:Nat)])∧w=w':=by
 have hs:IntKind.u32.signed=false:=rfl;have Hb:=lh (sub32_int x y c hx hy hc);go_enter Tryz.func193,Tryz.ntmps193
 go_wp2
 go_ret2
 exact ⟨ret_ii (by omega) Hb.out,rfl⟩
theorem or_lo32 (hi lo:Nat) (h:hi < 4294967296) (hlo:lo < 4294967296):bits .or .u64 ((hi:Int) * 4294967296) (lo:Int)=((hi * 4294967296+lo:Nat):Int):=by
 rw [u64_or _ _ (by omega) (by omega) (by omega) (by omega)];congr 1
 rw [Int.toNat_natCast,show ((hi:Int) * 4294967296).toNat=2 ^ 32 * hi by omega,← Nat.two_pow_add_eq_or_of_lt (by omega)];omega
theorem div32_any (hi lo d:Nat) (hlo:lo < 4294967296) (hd:hi < d) (hd2:d < 4294967296) (w:World) :
  Calls Tryz.prog 228 #[.int .u32 hi,.int .u32 lo,.int .u32 d] w fun e w'=>e=.returned (.tuple #[.int .u32 ((hi * 4294967296+lo) / d:Nat),.int .u32 ((hi * 4294967296+lo) % d:Nat)])∧∃ n,w'=w.drewN n:=by
 have h0:((d:Int) != 0)=true:=by rw [bne_iff_ne]; omega
 have hN1:(hi * 4294967296+lo) / d < 4294967296:=by
  rw [Nat.div_lt_iff_lt_mul (by omega)];have:(hi+1) * 4294967296≤d * 4294967296:=Nat.mul_le_mul_right _ hd;rw [Nat.mul_comm 4294967296 d];omega
 have hN2:(hi * 4294967296+lo) % d < d:=Nat.mod_lt _ (by omega);have hN3:hi * 4294967296+lo < 18446744073709551616:=(by omega);have Hor:=lh (or_lo32 hi lo (by omega) hlo);generalize hi * 4294967296+lo=N at *;have hM:N % d < 4294967296:=(by omega);have hN4:(0:Int)≤(N:Int) / (d:Int):=Int.ediv_nonneg (by omega) (by omega);have Hq:Hid (((N / d:Nat):Int)=(N:Int) / (d:Int)):=(by unfold Hid; omega);have Hr:Hid (((N % d:Nat):Int)=(N:Int) % (d:Int)):=(by unfold Hid; omega);rw [Hq.out,Hr.out];have HN3:U64 N:=hN3;have HN4:=lh hN4;have HN1:=lh hN1;have HM:=lh hM;clear hN1 hN3 hN4 hM hN2;go_enter Tryz.func228,Tryz.ntmps228
 go_wp2
 rw [Hor.out];have hN3:N < 18446744073709551616:=HN3;have hN4:=HN4.out;have hN1:=HN1.out;have hM:=HM.out;go_quiet (fail)
 clear hN3;go_wp2
 go_ret2
 exact ⟨rfl,_,rfl⟩
end Go.Proofs.YtgnjhlnolihgcaaGreat
namespace Go.Proofs.YtgnjhlnolihgcaaGreat
open Lib renaming hid → lh
open Go.RowKit
theorem mul_u64 {x y:Nat} (hx:x < 4294967296) (hy:y < 4294967296):IntKind.u64.wrap ((x:Int) * (y:Int))=((x * y:Nat):Int):=by
 have:x * y≤4294967295 * 4294967295:=Nat.mul_le_mul (by omega) (by omega);rw [IntKind.wrap_u64,← Int.natCast_mul];omega
theorem mul_le {x y:Nat} (hx:x < 4294967296) (hy:y < 4294967296):x * y≤18446744065119617025:=Nat.le_trans (Nat.mul_le_mul (show x≤4294967295 by omega) (show y≤4294967295 by omega)) (by omega)
theorem times_any (A1 A2:Option Addr) (l1 l2:List Nat) (c1 c2:Nat) (w:World) (hs1:Sl w A1 l1 c1) (hs2:Sl w A2 l2 c2) (hlen1:l1.length≤1000000) (hlen2:l2.length≤1000000) :
  Calls Tryz.prog 122 #[.slice A1 l1.length c1,.slice A2 l2.length c2] w (VRes (val l1 * val l2) (l1.length+l2.length) w):=by
 obtain ⟨i0,hi,hz0,hz1,hz2⟩:=info_parts info32;have hmk:=fun W=>q0n (P:=Tryz.prog) 44 146 i0 Tryz.underlying44 hi hz0 hz1 hz2 ((l1.length:Int)+(l2.length:Int)) ((l1.length:Int)+(l2.length:Int)) (l1.length+l2.length) (l1.length+l2.length) (by omega) (by omega) (Nat.le_refl _) (by omega) W;have Hs1:=lh hs1;have Hs2:=lh hs2;clear hs1 hs2 hi hz0 hz1 hz2;go_enter Tryz.func122,Tryz.ntmps122
 go_wp2
 go_loopw [6,7,8,9,10,19,26] (fun _ _ _ _ _ i _ wr=>∃ (k:Nat) (o:List Nat),k≤l1.length∧i=.int .i64 k∧o.length=l1.length+l2.length∧Lim o∧Blk wr w.heap.size 146 o∧val o=pv l1 k * val l2∧(∀ j,k+l2.length≤j→o[j]?.getD 0=0)∧Below w.heap.size w wr) (fun _ _ _ _ _ i _ _=>l1.length - (intOf i).toNat)
 case atStart=>exact ⟨0,List.replicate (l1.length+l2.length) 0,Nat.zero_le _,rfl,by simp,q0g _,Blk.zrow _ _ _,by rw [pv_zero,Nat.zero_mul]; exact val_replicate _,fun j _=>getD_replicate _ _,blw1 _ _⟩
 case round=>
  obtain ⟨k,o,hk,rfl,hol,holim,hblk,hval,hzero,hb⟩:=hrel;obtain ⟨wo,rfl⟩:∃ wo:World,wo=wr:=⟨_,rfl⟩;have Hol:=lh hol;have Hlim:=lh holim;have Hblk:=lh hblk;have Hval:=lh hval;have Hzero:=lh hzero;have Hb:=lh hb;clear hol holim hblk hval hzero hb;by_cases hlt:k < l1.length
  ·obtain ⟨b1,o1,rfl,hx1⟩:=(Hs1.out.below Hb.out).rd.at_ (k:=k) hlt;have hx2:=q0e Hs1.out.lim k;have Hx:Hid (l1[k]?.getD 0=l1[k]?.getD 0):=rfl;generalize hgx:l1[k]?.getD 0=x at *;have Hgx:=lh hgx;clear hgx Hx;go_wp2
   go_loopw [8,9,10,26] (fun cy _ _ j wi=>∃ (m cr:Nat) (p:List Nat),m≤l2.length∧j=.int .i64 m∧cy=.int .u64 cr∧cr < 4294967296∧p.length=l1.length+l2.length∧Lim p∧Blk wi w.heap.size 146 p∧val p+cr * 4294967296 ^ (k+m)=val o+x * pv l2 m * 4294967296 ^ k∧(∀ j,k+l2.length≤j→p[j]?.getD 0=0)∧Below w.heap.size w wi) (fun _ _ _ j _=>l2.length - (intOf j).toNat)
   case atStart=>exact ⟨0,0,o,Nat.zero_le _,rfl,rfl,by omega,Hol.out,Hlim.out,Hblk.out,by rw [pv_zero]; simp,Hzero.out,Hb.out⟩
   case round=>
    obtain ⟨m,cr,p,hm,rfl,rfl,hcr,hpl,hplim,hpblk,hpval,hpzero,hpb⟩:=hrel;have Hpl:=lh hpl;have Hplim:=lh hplim;have Hpblk:=lh hpblk;have Hpval:=lh hpval;have Hpzero:=lh hpzero;have Hpb:=lh hpb;clear hpl hplim hpblk hpval hpzero hpb;by_cases hlt2:m < l2.length
    ·obtain ⟨b2,o2,rfl,hy1⟩:=(Hs2.out.below Hpb.out).rd.at_ (k:=m) hlt2;have hy2:=q0e Hs2.out.lim m;have hz1:=q0e Hplim.out (k+m);have hcell:wr.cell? ⟨w.heap.size,k+m,none⟩=some (.int .u32 (p[k+m]?.getD 0:Nat)):=Hpblk.out.cell (by rw [Hpl.out]; omega);have hfr:wr.frozen? ⟨w.heap.size,k+m,none⟩=false:=Hpblk.out.frozen _;have Hst:=lh (times_step (by rw [Hpl.out]; omega) Hpval.out);generalize l2[m]?.getD 0=y at *;generalize p[k+m]?.getD 0=z at *;have hmul:=mul_u64 hx2 hy2;have hmle:=mul_le hx2 hy2;generalize x * y=q at *;have hcq:Hid ((cr+(q+z)) / 4294967296 < 4294967296):=(by unfold Hid; omega);go_wp2
     go_roundw
     case rel=>exact ⟨m+1,(cr+(q+z)) / 4294967296,p.set (k+m) ((cr+(q+z)) % 4294967296),by omega,by go_num,int_eq (by omega),hcq.out,by rw [List.length_set]; exact Hpl.out,q1c Hplim.out (Nat.mod_lt _ (by omega)),Hpblk.out.setv (by omega) _,Hst.out,fun j hj=>by rw [getD_set_ne (by omega)]; exact Hpzero.out j hj,Hpb.out.setCell (p:=⟨w.heap.size,k+m,none⟩) (Nat.le_refl _) _⟩
     case measure=>simp [intOf]; omega
    ·obtain rfl:m=l2.length:=by omega
     have hcell:wr.cell? ⟨w.heap.size,k+l2.length,none⟩=some (.int .u32 (p[k+l2.length]?.getD 0:Nat)):=Hpblk.out.cell (by rw [Hpl.out]; omega);have hfr:wr.frozen? ⟨w.heap.size,k+l2.length,none⟩=false:=Hpblk.out.frozen _;have Hrow:Hid (val (p.set (k+l2.length) cr)=pv l1 (k+1) * val l2):=times_row (by rw [Hpl.out]; omega) (Hpzero.out _ (Nat.le_refl _)) Hgx.out (Nat.le_refl _) (by have h1:=Hpval.out; rw [Hval.out] at h1; exact h1);go_wp2
     go_roundw
     case rel=>exact ⟨k+1,p.set (k+l2.length) cr,by omega,by go_num,by rw [List.length_set]; exact Hpl.out,q1c Hplim.out hcr,Hpblk.out.set_ _ _,Hrow.out,fun j hj=>by rw [getD_set_ne (by omega)]; exact Hpzero.out j (by omega),Hpb.out.setCell (p:=⟨w.heap.size,k+l2.length,none⟩) (Nat.le_refl _) _⟩
     case measure=>simp [intOf]; omega
  ·obtain rfl:k=l1.length:=by omega
   have Hfin:Hid (val o=val l1 * val l2):=(by have h1:=Hval.out; rw [q0o (Nat.le_refl _)] at h1; exact h1);have Hr2:=lh Hblk.out.rd;go_wp2
   go_ret
   exact ⟨_,l1.length+l2.length,o,by rw [Hol.out]; rfl,⟨Hr2.out,Hlim.out,by rw [Hol.out]; exact Nat.le_refl _,by rw [Hol.out]; omega⟩,Hfin.out,by rw [Hol.out]; exact Nat.le_refl _,Hb.out⟩
end Go.Proofs.YtgnjhlnolihgcaaGreat
namespace Go.Proofs.YtgnjhlnolihgcaaGreat
open Lib renaming hid → lh
open Go.RowKit
theorem pv_zero_succ {l:List Nat} {k:Nat} (h:pv l k=0) (h2:l[k]?.getD 0=0):pv l (k+1)=0:=by rw [q0f,h,h2]; simp
theorem val_pos_of {l:List Nat} {k:Nat} (h2:0 < l[k]?.getD 0):0 < val l:=by
 rw [val_split l (k+1),q0f];have:0 < l[k]?.getD 0 * 4294967296 ^ k:=Nat.mul_pos h2 (Nat.pow_pos (by omega));omega
theorem gt0_any (x:Nat) (w:World):Calls Tryz.prog 209 #[.int .u32 x] w fun e w'=>e=.returned (.bool (decide (0 < x)))∧w=w':=by
 by_cases h:0 < x
 ·go_enter Tryz.func209,Tryz.ntmps209
  go_wp2
  go_ret
  exact ⟨by simp [h],rfl⟩
 ·go_enter Tryz.func209,Tryz.ntmps209
  go_wp2
  go_ret
  exact ⟨by simp [h],rfl⟩
theorem indexFunc_any (A:Option Addr) (l:List Nat) (c:Nat) (w:World) (hs:Sl w A l c) :
  Calls Tryz.prog 235 #[.slice A l.length c,.func (.func 209) #[] #[]] w fun e w'=>∃ z:Int,e=.returned (.int .i64 z)∧(0≤z ↔ 0 < val l)∧w=w':=by
 have Hs:=lh hs;have hlen:=hs.len;clear hs;go_enter Tryz.func235,Tryz.ntmps235
 go_wp2
 go_loopw [5,8] (fun _ i wr=>∃ k:Nat,k≤l.length∧i=.int .i64 k∧pv l k=0∧wr=w) (fun _ i _=>l.length - (intOf i).toNat)
 case atStart=>exact ⟨0,Nat.zero_le _,rfl,pv_zero l,rfl⟩
 case round=>
  obtain ⟨k,hk,rfl,hpv,rfl⟩:=hrel;have Hpv:=lh hpv;clear hpv;by_cases hlt:k < l.length
  ·obtain ⟨b,o,rfl,hx⟩:=Hs.out.rd.at_ (k:=k) hlt;have Hgx:Hid (l[k]?.getD 0=l[k]?.getD 0):=rfl;generalize hgx:l[k]?.getD 0=x at *;have Hx:=lh hgx;clear hgx Hgx;by_cases h0:0 < x
   ·have Hv:Hid (0 < val l):=val_pos_of (k:=k) (by rw [Hx.out]; exact h0);go_wp2_with fail
    refine (gt0_any x _).mono ?_;rintro e w1 ⟨rfl,rfl⟩;rw [decide_eq_true h0];go_wp2
    go_ret
    exact ⟨_,rfl,⟨fun _=>Hv.out,fun _=>by omega⟩,rfl⟩
   ·have Hz:Hid (pv l (k+1)=0):=pv_zero_succ Hpv.out (by rw [Hx.out]; omega);go_wp2_with fail
    refine (gt0_any x _).mono ?_;rintro e w1 ⟨rfl,rfl⟩;rw [decide_eq_false h0];go_wp2
    go_roundw
    case rel=>exact ⟨k+1,by omega,by go_num,Hz.out,by simp⟩
    case measure=>simp [intOf]; omega
  ·obtain rfl:k=l.length:=by omega
   have Hv:Hid (val l=0):=(by have h:=Hpv.out; rwa [q0o (Nat.le_refl _)] at h);go_wp2
   go_ret
   exact ⟨_,rfl,⟨fun h=>by omega,fun h=>by have:=Hv.out; omega⟩,rfl⟩
theorem q1h (A:Option Addr) (l:List Nat) (c:Nat) (w:World) (hs:Sl w A l c) :
  Calls Tryz.prog 208 #[.slice A l.length c,.func (.func 209) #[] #[]] w fun e w'=>e=.returned (.bool (decide (0 < val l)))∧w=w':=by
 have Hs:=lh hs;clear hs;go_enter Tryz.func208,Tryz.ntmps208
 go_wp2_with fail
 refine (indexFunc_any _ _ _ _ Hs.out).mono ?_;rintro e w1 ⟨z,rfl,hz,rfl⟩;have Hz:Hid (decide (0≤z)=decide (0 < val l)):=decide_eq_decide.2 hz;clear hz;go_wp2
 go_ret
 exact ⟨by rw [← Hz.out]; rfl,rfl⟩
end Go.Proofs.YtgnjhlnolihgcaaGreat
namespace Go.Proofs.YtgnjhlnolihgcaaGreat
open Lib renaming hid → lh
open Go.RowKit
end Go.Proofs.YtgnjhlnolihgcaaGreat
namespace Go.Proofs.YtgnjhlnolihgcaaGreat
open Lib renaming hid → lh
open Go.RowKit
theorem or_shl (cr x s:Nat) (hs:s < 32) (hc:cr < 2 ^ s) (hx:x < 4294967296):bits .or .u64 (cr:Int) ((x * 2 ^ s:Nat):Int)=((cr+x * 2 ^ s:Nat):Int):=by
 have h1:=shl_lt hc hx;have h2:=pow_s hs;rw [u64_or _ _ (by omega) (by omega) (by omega) (by omega)];congr 1
 rw [Int.toNat_natCast,Int.toNat_natCast,Nat.or_comm,Nat.mul_comm x,← Nat.two_pow_add_eq_or_of_lt hc];omega
theorem wrap_shl (x s:Nat) (hs:s < 32) (hx:x < 4294967296):IntKind.u64.wrap ((x:Int) * 2 ^ s)=((x * 2 ^ s:Nat):Int):=by
 have h1:=shl_lt (Nat.two_pow_pos s) hx;have h2:=pow_s hs;have h3:(x:Int) * 2 ^ s=((x * 2 ^ s:Nat):Int):=(by push_cast; rfl);rw [h3,IntKind.wrap_u64];omega
theorem left_any (A1:Option Addr) (l:List Nat) (c1 k:Nat) (w:World) (hs1:Sl w A1 l c1) (hlen1:l.length≤1000000) (hk:k≤1000000) :
  Calls Tryz.prog 173 #[.slice A1 l.length c1,.int .i64 k] w (ORes (val l * 2 ^ k) (k / 32+l.length+1) w):=by
 obtain ⟨i0,hi,hz0,hz1,hz2⟩:=info_parts info32;obtain ⟨kq,hkq⟩:∃ kq,kq=k / 32:=⟨_,rfl⟩;obtain ⟨s,hs⟩:∃ s,s=k % 32:=⟨_,rfl⟩;have hs32:s < 32:=(by omega);have hkq2:kq≤1000000:=(by omega);have Hpow:Hid (4294967296 ^ kq * 2 ^ s=2 ^ k):=(by unfold Hid; rw [hkq,hs]; exact pow_split k);rw [← hkq];have hk1:(k:Int) / 32=(kq:Int):=(by omega);have hk2:(k:Int) % 32=(s:Int):=(by omega);clear hkq hs;have hmk:=fun W=>q0n (P:=Tryz.prog) 44 146 i0 Tryz.underlying44 hi hz0 hz1 hz2 (kq:Int) ((kq:Int)+(l.length:Int)+1) kq (kq+l.length+1) rfl (by omega) (by omega) (by omega) W;have Hs1:=lh hs1;clear hs1;go_enter Tryz.func173,Tryz.ntmps173
 go_wp2
 go_loopw [5,6,8,20] (fun v cy _ i wr=>∃ (k cr c:Nat) (A:Option Addr) (o:List Nat),k≤l.length∧i=.int .i64 k∧cy=.int .u64 cr∧cr < 2 ^ s∧v=.slice A o.length c∧o.length=kq+k∧Lim o∧Ow wr w.heap.size 146 (.slice A o.length c) o∧val o+cr * 4294967296 ^ o.length=4294967296 ^ kq * (pv l k * 2 ^ s)∧Below w.heap.size w wr) (fun _ _ _ i _=>l.length - (intOf i).toNat)
 case atStart=>exact ⟨0,0,kq+l.length+1,some ⟨w.heap.size,0,none⟩,List.replicate kq 0,Nat.zero_le _,rfl,rfl,Nat.two_pow_pos s,by rw [List.length_replicate],by simp,q0g _,by rw [List.length_replicate]; exact ow_zrow _ _ _ _ (by omega) (by omega),by rw [val_replicate,pv_zero]; simp,blw1 _ _⟩
 case round=>
  obtain ⟨m,cr,c,A,o,hk,rfl,rfl,hcr,rfl,hol,holim,hown,hsum,hb⟩:=hrel;have Hol:=lh hol;have Hlim:=lh holim;have Hown:=lh hown;have Hsum:=lh hsum;have Hb:=lh hb;have Hcr:=lh hcr;have hbs:=hb.size;have hps:=pow_s hs32;have hcr2:cr < 4294967296:=(by omega);have Hn1:Hid (o.length+1≤35184372088832):=(by unfold Hid; omega);clear hol holim hown hsum hb;by_cases hlt:m < l.length
  ·obtain ⟨b1,o1,rfl,hx1⟩:=(Hs1.out.below Hb.out).rd.at_ (k:=m) hlt;have hx2:=q0e Hs1.out.lim m;have Hst:=lh (left_step Hsum.out (show 4294967296 ^ o.length=4294967296 ^ kq * 4294967296 ^ m by rw [Hol.out,Nat.pow_add]));have hout:=shl_out hcr hx2;have hlt2:=shl_lt hcr hx2;have hor:=or_shl cr (l[m]?.getD 0) s hs32 hcr hx2;have hwr:=wrap_shl (l[m]?.getD 0) s hs32 hx2;have Hout:=lh hout;have ht:cr+l[m]?.getD 0 * 2 ^ s < 18446744073709551616:=(by omega);generalize l[m]?.getD 0=x at *;generalize hp:x * 2 ^ s=p at *;generalize hgt:cr+p=t at *;have ht2:p < 18446744073709551616:=(by omega);clear hcr hps hout hlt2 hp hgt;go_wp2_with (at_builtin; refine wpList_app rfl _ _ 44 rfl w.heap.size 146 i0 Tryz.underlying44 hi hz0 hz1 hz2 (.slice A o.length c) o rfl (Hown.out.alloc _) (some ⟨wr.heap.size,0,none⟩) 1 [t % 4294967296] 1 rfl rfl (Rd.onev _ (by simp) _) Hn1.out (by simp; omega) ?_; intro A' c' w1 hown' hgrow _; have Hown':=lh hown'; have Hb':=lh (app_below Hb.out Hown.out hgrow); clear hown' hgrow)
   go_roundw
   case rel=>exact ⟨m+1,t / 4294967296,c',A',o ++ [t % 4294967296],by omega,by go_num,int_eq (by omega),Hout.out,by rw [List.length_append]; rfl,by rw [List.length_append,Hol.out]; rfl,snoc_lim Hlim.out (Nat.mod_lt _ (by omega)),Hown'.out,by rw [List.length_append]; exact Hst.out,Hb'.out⟩
   case measure=>simp [intOf]; omega
  ·obtain rfl:m=l.length:=by omega
   have Hfin:=lh (left_end Hsum.out);clear hcr hps;go_wp2_with (at_builtin; refine wpList_app rfl _ _ 44 rfl w.heap.size 146 i0 Tryz.underlying44 hi hz0 hz1 hz2 (.slice A o.length c) o rfl (Hown.out.alloc _) (some ⟨wr.heap.size,0,none⟩) 1 [cr] 1 rfl rfl (Rd.onev _ (by omega) _) Hn1.out (by simp; omega) ?_; intro A' c' w1 hown' hgrow _; have Hown':=lh hown'; have Hb':=lh (app_below Hb.out Hown.out hgrow); clear hown' hgrow)
   go_ret
   exact ⟨A',c',o ++ [cr],by rw [List.length_append]; rfl,Hown'.out,snoc_lim Hlim.out hcr2,by rw [Hfin.out,Hpow.out],by rw [List.length_append,Hol.out]; rfl,Hb'.out⟩
end Go.Proofs.YtgnjhlnolihgcaaGreat
namespace Go.Proofs.YtgnjhlnolihgcaaGreat
open Lib renaming hid → lh
open Go.RowKit
end Go.Proofs.YtgnjhlnolihgcaaGreat
namespace Go.Proofs.YtgnjhlnolihgcaaGreat
open Lib renaming hid → lh
open Go.RowKit
end Go.Proofs.YtgnjhlnolihgcaaGreat
namespace Go.Proofs.YtgnjhlnolihgcaaGreat
open Lib renaming hid → lh
open Go.RowKit
end Go.Proofs.YtgnjhlnolihgcaaGreat
namespace Go.Proofs.YtgnjhlnolihgcaaGreat
open Lib renaming hid → lh
open Go.RowKit
end Go.Proofs.YtgnjhlnolihgcaaGreat
import Derived.Test.YtgnjhlnolihgcaaGreatMemV
import Derived.Test.YtgnjhlnolihgcaaGreatW1
set_option maxHeartbeats 1000000
set_option maxRecDepth 100000
namespace Go.Proofs.YtgnjhlnolihgcaaGreat
open Lib renaming hid → lh
open Go.RowKit
attribute [local go_sem ↓] Go.wp_at_zero Go.wp_at_succ
theorem q0u {a b:Int} (h:a=b):Ending.returned (.int .i64 a)=.returned (.int .i64 b):=by rw [h]
def okF (W H:Int) (l:List Int):Bool:=decide (1≤W) && decide (W≤100) && decide (1≤H) && decide (H≤100) && decide ((l.length:Int)=W * H) && l.all fun x=>decide (-4294967296≤x) && decide (x≤4294967296)
def fchk (W H:Int) (l:List Int):Int:=if okF W H l then 0 else 8
theorem okF_iff {W H:Int} {l:List Int} : okF W H l=true ↔ (1≤W∧W≤100)∧(1≤H∧H≤100)∧(l.length:Int)=W * H∧∀ x∈l,-4294967296≤x∧x≤4294967296:=by
 unfold okF;simp only [Bool.and_eq_true,decide_eq_true_eq,List.all_eq_true,and_assoc]
theorem q0w {W H:Int} {l:List Int} (h:¬ ((1≤W∧W≤100)∧(1≤H∧H≤100)∧(l.length:Int)=W * H∧∀ x∈l,-4294967296≤x∧x≤4294967296)):fchk W H l=8:=by
 unfold fchk;rw [if_neg (fun e=>h (okF_iff.1 e))]
theorem fchk_good {W H:Int} {l:List Int} (h:(1≤W∧W≤100)∧(1≤H∧H≤100)∧(l.length:Int)=W * H∧∀ x∈l,-4294967296≤x∧x≤4294967296):fchk W H l=0:=by
 unfold fchk;rw [if_pos (okF_iff.2 h)]
theorem side_mul {W H:Int} (a:1≤W) (b:W≤100) (c:1≤H) (d:H≤100):1≤W * H∧W * H≤10000:=by
 have h1:=Int.mul_le_mul b d (by omega) (by omega:(0:Int)≤100);have h2:=Int.mul_le_mul a c (by omega) (by omega:(0:Int)≤W);omega
def MostPost (sg:Int) (l:List Int) (w:World) (e:Ending) (w':World):Prop:=∃ m:Int,e=.returned (.int .i64 m)∧m∈l∧(∀ x∈l,sg * x≤sg * m)∧w=w'
theorem take_snoc_i (l:List Int) {k:Nat} (h:k < l.length):l.take (k+1)=l.take k ++ [l[k]'h]:=(List.take_append_getElem h).symm
theorem smax_any (A:Option Addr) (l:List Int) (c B:Nat) (hl:0 < l.length) (w:World) (hs:SlI w B A l c) :
  Calls Tryz.prog 58 #[.slice A l.length c] w (MostPost (1) l w):=by
 have hm:=hs.len;obtain ⟨b,o,rfl,-,hc0⟩:=hs.at_ (k:=0) hl;rw [Nat.add_zero] at hc0;have S:=lh hs;have t1:decide (l.length < 1)=false:=decide_eq_false (by omega);have t2:decide ((l.length:Int) < 1)=false:=decide_eq_false (by omega);have h0:Hid (l.take 1=[l[0]'hl]):=(take_snoc_i l (k:=0) hl).trans (by simp);have b0:=hs.lim.at_ hl;clear hs;generalize l[0]'hl=x0 at *;go_enter Tryz.func58,Tryz.ntmps58
 go_wp2
 go_loop [3,4] (fun s3 s4=>∃ (k:Nat) (m:Int),1≤k∧k≤l.length∧s4=.int .i64 k∧s3=.int .i64 m∧m∈l.take k∧(∀ x∈l.take k,(1) * x≤(1) * m) ∧ -9223372036854775808≤m∧m≤9223372036854775807) (fun _ v=>l.length - (intOf v).toNat)
 case atStart=>exact ⟨1,x0,Nat.le_refl _,hl,rfl,rfl,by rw [h0.out]; simp,by rw [h0.out]; simp,b0.1,b0.2⟩
 case round=>
  obtain ⟨k,m,hk1,hk,rfl,rfl,hm1,hm2,hb1,hb2⟩:=hrel;have M1:=lh hm1;have M2:=lh hm2;clear hm1 hm2;by_cases hlt:k < l.length
  ·obtain ⟨b',o',e,-,hck⟩:=S.out.at_ (k:=k) hlt;cases e
   have hst:Hid (l.take (k+1)=l.take k ++ [l[k]'hlt]):=take_snoc_i l hlt;have bk:=S.out.lim.at_ hlt;generalize l[k]'hlt=x at *;go_wp2
   go_round
   case rel=>exact ⟨k+1,max m x,by omega,by omega,by go_num,by go_num,by
    rw [hst.out,List.mem_append];rcases (by omega:max m x=m∨max m x=x) with h | h
    ·rw [h]; exact .inl M1.out
    ·rw [h]; exact .inr (by simp),fun y hy=>by
    rw [hst.out,List.mem_append] at hy;rcases hy with hy | hy
    ·have:=M2.out y hy; omega
    ·rw [List.mem_singleton] at hy; subst hy; omega,by omega,by omega⟩
   case measure=>simp [intOf]; omega
  ·obtain rfl:k=l.length:=by omega
   go_wp2
   go_ret
   exact ⟨m,rfl,by have:=M1.out; rwa [List.take_length] at this,by have:=M2.out; rwa [List.take_length] at this,rfl⟩
theorem smin_any (A:Option Addr) (l:List Int) (c B:Nat) (hl:0 < l.length) (w:World) (hs:SlI w B A l c) :
  Calls Tryz.prog 59 #[.slice A l.length c] w (MostPost (-1) l w):=by
 have hm:=hs.len;obtain ⟨b,o,rfl,-,hc0⟩:=hs.at_ (k:=0) hl;rw [Nat.add_zero] at hc0;have S:=lh hs;have t1:decide (l.length < 1)=false:=decide_eq_false (by omega);have t2:decide ((l.length:Int) < 1)=false:=decide_eq_false (by omega);have h0:Hid (l.take 1=[l[0]'hl]):=(take_snoc_i l (k:=0) hl).trans (by simp);have b0:=hs.lim.at_ hl;clear hs;generalize l[0]'hl=x0 at *;go_enter Tryz.func59,Tryz.ntmps59
 go_wp2
 go_loop [3,4] (fun s3 s4=>∃ (k:Nat) (m:Int),1≤k∧k≤l.length∧s4=.int .i64 k∧s3=.int .i64 m∧m∈l.take k∧(∀ x∈l.take k,(-1) * x≤(-1) * m) ∧ -9223372036854775808≤m∧m≤9223372036854775807) (fun _ v=>l.length - (intOf v).toNat)
 case atStart=>exact ⟨1,x0,Nat.le_refl _,hl,rfl,rfl,by rw [h0.out]; simp,by rw [h0.out]; simp,b0.1,b0.2⟩
 case round=>
  obtain ⟨k,m,hk1,hk,rfl,rfl,hm1,hm2,hb1,hb2⟩:=hrel;have M1:=lh hm1;have M2:=lh hm2;clear hm1 hm2;by_cases hlt:k < l.length
  ·obtain ⟨b',o',e,-,hck⟩:=S.out.at_ (k:=k) hlt;cases e
   have hst:Hid (l.take (k+1)=l.take k ++ [l[k]'hlt]):=take_snoc_i l hlt;have bk:=S.out.lim.at_ hlt;generalize l[k]'hlt=x at *;go_wp2
   go_round
   case rel=>exact ⟨k+1,min m x,by omega,by omega,by go_num,by go_num,by
    rw [hst.out,List.mem_append];rcases (by omega:min m x=m∨min m x=x) with h | h
    ·rw [h]; exact .inl M1.out
    ·rw [h]; exact .inr (by simp),fun y hy=>by
    rw [hst.out,List.mem_append] at hy;rcases hy with hy | hy
    ·have:=M2.out y hy; omega
    ·rw [List.mem_singleton] at hy; subst hy; omega,by omega,by omega⟩
   case measure=>simp [intOf]; omega
  ·obtain rfl:k=l.length:=by omega
   go_wp2
   go_ret
   exact ⟨m,rfl,by have:=M1.out; rwa [List.take_length] at this,by have:=M2.out; rwa [List.take_length] at this,rfl⟩
theorem ccheck_any (W H:Int) (A:Option Addr) (l:List Int) (c B:Nat) (w:World) (hs:SlI w B A l c) :
  Calls Tryz.prog 22 #[.agg #[.int .i64 W,.int .i64 H,.slice A l.length c]] w fun e w'=>e=.returned (.int .i64 (fchk W H l))∧Below w.heap.size w w':=by
 have hm:=hs.len;have S:=lh hs;clear hs;by_cases h0:1≤W
 rotate_left
 ·have t0:decide (1≤W)=false:=decide_eq_false h0;have hr:=q0w (W:=W) (H:=H) (l:=l) (by omega);have HR:=lh hr;clear hr h0;go_enter Tryz.func22,Tryz.ntmps22
  go_wp2
  go_ret
  exact ⟨q0u HR.out.symm,blw1 _ _⟩
 have t0:decide (1≤W)=true:=decide_eq_true h0;by_cases h1:W≤100
 rotate_left
 ·have t1:decide (W≤100)=false:=decide_eq_false h1;have hr:=q0w (W:=W) (H:=H) (l:=l) (by omega);have HR:=lh hr;clear hr h0 h1;go_enter Tryz.func22,Tryz.ntmps22
  go_wp2
  go_ret
  exact ⟨q0u HR.out.symm,blw1 _ _⟩
 have t1:decide (W≤100)=true:=decide_eq_true h1;by_cases h2:1≤H
 rotate_left
 ·have t2:decide (1≤H)=false:=decide_eq_false h2;have hr:=q0w (W:=W) (H:=H) (l:=l) (by omega);have HR:=lh hr;clear hr h0 h1 h2;go_enter Tryz.func22,Tryz.ntmps22
  go_wp2
  go_ret
  exact ⟨q0u HR.out.symm,blw1 _ _⟩
 have t2:decide (1≤H)=true:=decide_eq_true h2;by_cases h3:H≤100
 rotate_left
 ·have t3:decide (H≤100)=false:=decide_eq_false h3;have hr:=q0w (W:=W) (H:=H) (l:=l) (by omega);have HR:=lh hr;clear hr h0 h1 h2 h3;go_enter Tryz.func22,Tryz.ntmps22
  go_wp2
  go_ret
  exact ⟨q0u HR.out.symm,blw1 _ _⟩
 have t3:decide (H≤100)=true:=decide_eq_true h3;obtain ⟨p1,p2⟩:=side_mul h0 h1 h2 h3;by_cases hl:(l.length:Int)=W * H
 rotate_left
 ·have t4:((l.length:Int) == W * H)=false:=(by rw [beq_eq_false_iff_ne]; exact hl);have hr:=q0w (W:=W) (H:=H) (l:=l) (by omega);have HR:=lh hr;clear hr h0 h1 h2 h3 hl;go_enter Tryz.func22,Tryz.ntmps22
  go_wp2
  go_ret
  exact ⟨q0u HR.out.symm,blw1 _ _⟩
 have t4:((l.length:Int) == W * H)=true:=(by rw [beq_iff_eq]; exact hl);have hpos:0 < l.length:=(by omega);have HW:=lh (And.intro (And.intro h0 h1) (And.intro (And.intro h2 h3) hl));clear h0 h1 h2 h3 hl;go_enter Tryz.func22,Tryz.ntmps22
 go_wp2_with fail
 refine (smax_any A l c B hpos _ (S.out.alloc _)).mono ?_;rintro e w1 ⟨m,rfl,hm1,hm2,rfl⟩;have M1:=lh hm1;have M2:=lh hm2;have bm:=S.out.lim _ hm1;clear hm1 hm2;by_cases hg:4294967296 < m
 ·have t5:decide (4294967296 < m)=true:=decide_eq_true hg;have hr:=q0w (W:=W) (H:=H) (l:=l) (fun h=>by have:=h.2.2.2 m M1.out; omega);have HR:=lh hr;clear hr hg;go_wp2
  go_ret
  exact ⟨q0u HR.out.symm,blw1 _ _⟩
 have t5:decide (4294967296 < m)=false:=decide_eq_false hg;go_wp2_with fail
 refine (smin_any A l c B hpos _ (S.out.alloc _)).mono ?_;rintro e w1 ⟨n,rfl,hn1,hn2,rfl⟩;have N1:=lh hn1;have N2:=lh hn2;have bn:=S.out.lim _ hn1;clear hn1 hn2;by_cases hk:n < -4294967296
 ·have t6:decide (n < -4294967296)=true:=decide_eq_true hk;have hr:=q0w (W:=W) (H:=H) (l:=l) (fun h=>by have:=h.2.2.2 n N1.out; omega);have HR:=lh hr;clear hr hk hg;go_wp2
  go_ret
  exact ⟨q0u HR.out.symm,blw1 _ _⟩
 have t6:decide (n < -4294967296)=false:=decide_eq_false hk;have hr:=fchk_good (W:=W) (H:=H) (l:=l) ⟨HW.out.1,HW.out.2.1,HW.out.2.2,fun x hx=>by have h1:=M2.out x hx; have h2:=N2.out x hx; omega⟩;have HR:=lh hr;clear hr hk hg;go_wp2
 go_ret
 exact ⟨q0u HR.out.symm,blw1 _ _⟩
end Go.Proofs.YtgnjhlnolihgcaaGreat
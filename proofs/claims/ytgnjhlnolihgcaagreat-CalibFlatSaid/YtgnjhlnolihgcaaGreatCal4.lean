import Derived.Test.YtgnjhlnolihgcaaGreatRegI
import Derived.Test.YtgnjhlnolihgcaaGreatCal3
import Derived.Test.YtgnjhlnolihgcaaGreatCMath
import Derived.Test.YtgnjhlnolihgcaaGreatF13
import Derived.Test.YtgnjhlnolihgcaaGreatFMathC
import Derived.Deep.CutRange
import Derived.Deep.RegionHeld3
import Derived.IntWalk
set_option maxHeartbeats 2000000
set_option maxRecDepth 100000
namespace Go.Proofs.YtgnjhlnolihgcaaGreat
open Go.RowKit
attribute [local go_sem ↓] Go.wp_at_zero Go.wp_at_succ
theorem rccheck_any (W H:Int) (A:Option Addr) (l:List Int) (c B:Nat) (w:World) (hs:SlI w B A l c) :
  Calls Tryz.prog 23 #[.agg #[.int .i64 W,.int .i64 H,.slice A l.length c]] w fun e w'=>e=.returned (.int .i64 (fchk W H l))∧Below w.heap.size w w':=by
 have hm:=hs.len;have S:=Lib.hid hs;clear hs;by_cases h0:W < 1
 ·have t0:decide (W < 1)=true:=decide_eq_true h0;have hr:=q0w (W:=W) (H:=H) (l:=l) (by omega);have HR:=Lib.hid hr;clear hr h0;go_enter Tryz.func23,Tryz.ntmps23
  go_wp2
  go_ret
  exact ⟨q0u HR.out.symm,blw1 _ _⟩
 have t0:decide (W < 1)=false:=decide_eq_false h0;by_cases h1:100 < W
 ·have t1:decide (100 < W)=true:=decide_eq_true h1;have hr:=q0w (W:=W) (H:=H) (l:=l) (by omega);have HR:=Lib.hid hr;clear hr h0 h1;go_enter Tryz.func23,Tryz.ntmps23
  go_wp2
  go_ret
  exact ⟨q0u HR.out.symm,blw1 _ _⟩
 have t1:decide (100 < W)=false:=decide_eq_false h1;by_cases h2:H < 1
 ·have t2:decide (H < 1)=true:=decide_eq_true h2;have hr:=q0w (W:=W) (H:=H) (l:=l) (by omega);have HR:=Lib.hid hr;clear hr h0 h1 h2;go_enter Tryz.func23,Tryz.ntmps23
  go_wp2
  go_ret
  exact ⟨q0u HR.out.symm,blw1 _ _⟩
 have t2:decide (H < 1)=false:=decide_eq_false h2;by_cases h3:100 < H
 ·have t3:decide (100 < H)=true:=decide_eq_true h3;have hr:=q0w (W:=W) (H:=H) (l:=l) (by omega);have HR:=Lib.hid hr;clear hr h0 h1 h2 h3;go_enter Tryz.func23,Tryz.ntmps23
  go_wp2
  go_ret
  exact ⟨q0u HR.out.symm,blw1 _ _⟩
 have t3:decide (100 < H)=false:=decide_eq_false h3;obtain ⟨p1,p2⟩:=side_mul (W:=W) (H:=H) (by omega) (by omega) (by omega) (by omega);by_cases hl:(l.length:Int)=W * H
 rotate_left
 ·have t4:((l.length:Int) != W * H)=true:=(by simp [hl]);have hr:=q0w (W:=W) (H:=H) (l:=l) (by omega);have HR:=Lib.hid hr;clear hr h0 h1 h2 h3 hl;go_enter Tryz.func23,Tryz.ntmps23
  go_wp2
  go_ret
  exact ⟨q0u HR.out.symm,blw1 _ _⟩
 have t4:((l.length:Int) != W * H)=false:=(by simp [hl]);have HW:Hid ((1≤W∧W≤100)∧(1≤H∧H≤100)∧(l.length:Int)=W * H):=⟨by omega,by omega,hl⟩;clear h0 h1 h2 h3 hl;go_enter Tryz.func23,Tryz.ntmps23
 go_wp2
 generalize hwz:w.alloc (.cells #[.int .i64 W,.int .i64 H,.slice A l.length c] 53)=wz at *;have KB:Hid (BlkV wz w.heap.size 53 #[.int .i64 W,.int .i64 H,.slice A l.length c]):=(by rw [← hwz]; exact BlkV.fresh rfl _ _);have HB:Hid (Below w.heap.size w wz):=(by rw [← hwz]; exact blw1 _ _);have S2:Hid (SlI wz B A l c):=(by rw [← hwz]; exact S.out.alloc _);clear hwz;go_loop [3] (fun s3=>∃ k:Nat,k≤l.length∧s3=.int .i64 k∧∀ x∈l.take k,-4294967296≤x∧x≤4294967296) (fun v=>l.length - (intOf v).toNat)
 case atStart=>exact ⟨0,Nat.zero_le _,rfl,by simp⟩
 case round=>
  obtain ⟨k,hk,rfl,hall⟩:=hrel;have ALL:=Lib.hid hall;clear hall;have k2:wz.cell? ⟨w.heap.size,2,none⟩=some (.slice A l.length c):=KB.out.at_ 2 rfl;by_cases hlt:k < l.length
  ·obtain ⟨b,o,rfl,-,hck⟩:=S2.out.at_ (k:=k) hlt;have hst:Hid (l.take (k+1)=l.take k ++ [l[k]'hlt]):=take_snoc_i l hlt;have hin:Hid (l[k]'hlt∈l):=List.getElem_mem hlt;have bk:=S2.out.lim.at_ hlt;generalize l[k]'hlt=x at *;by_cases hx1:x < -4294967296
   ·have t5:decide (x < -4294967296)=true:=decide_eq_true hx1;have hr:=q0w (W:=W) (H:=H) (l:=l) (fun h=>by have:=h.2.2.2 x hin.out; omega);have HR:=Lib.hid hr;clear hr hx1;go_wp2
    go_ret
    exact ⟨q0u HR.out.symm,HB.out⟩
   ·have t5:decide (x < -4294967296)=false:=decide_eq_false hx1;by_cases hx2:4294967296 < x
    ·have t6:decide (4294967296 < x)=true:=decide_eq_true hx2;have hr:=q0w (W:=W) (H:=H) (l:=l) (fun h=>by have:=h.2.2.2 x hin.out; omega);have HR:=Lib.hid hr;clear hr hx1 hx2;go_wp2
     go_ret
     exact ⟨q0u HR.out.symm,HB.out⟩
    ·have t6:decide (4294967296 < x)=false:=decide_eq_false hx2;go_wp2
     go_round
     case rel=>exact ⟨k+1,by omega,by go_num,fun y hy=>by
      rw [hst.out,List.mem_append] at hy;rcases hy with hy | hy
      ·exact ALL.out y hy
      ·rw [List.mem_singleton] at hy; subst hy; omega⟩
     case measure=>simp [intOf]; omega
  ·obtain rfl:k=l.length:=by omega
   have hr:=fchk_good (W:=W) (H:=H) (l:=l) ⟨HW.out.1,HW.out.2.1,HW.out.2.2,by have:=ALL.out; rwa [List.take_length] at this⟩;have HR:=Lib.hid hr;clear hr;go_wp2
   go_ret
   exact ⟨q0u HR.out.symm,HB.out⟩
def aliB (f g:FD):Bool:=decide (f.W=g.W) && decide (f.H=g.H)
theorem ralike_any (f g:FD) (w:World) :
  Calls Tryz.prog 27 #[.agg #[.int .i64 f.W,.int .i64 f.H,.slice f.A f.l.length f.c],.agg #[.int .i64 g.W,.int .i64 g.H,.slice g.A g.l.length g.c]] w fun e w'=>e=.returned (.bool (aliB f g))∧Below w.heap.size w w':=by
 have N:Hid (aliB f g=(decide (f.W=g.W) && decide (f.H=g.H))):=rfl;by_cases hW:f.W=g.W
 ·have t1:(f.W == g.W)=true:=(by simp [hW]);by_cases hH:f.H=g.H
  ·have t2:(f.H == g.H)=true:=(by simp [hH]);have E:Hid (aliB f g=true):=(by rw [Hid,N.out]; simp [hW,hH]);clear hW hH N;go_enter Tryz.func27,Tryz.ntmps27
   go_wp2
   go_ret
   exact ⟨by rw [E.out]; rfl,q0a (blw1 _ _) (blw1 _ _)⟩
  ·have t2:(f.H == g.H)=false:=(by simp [hH]);have E:Hid (aliB f g=false):=(by rw [Hid,N.out]; simp [hW,hH]);clear hW hH N;go_enter Tryz.func27,Tryz.ntmps27
   go_wp2
   go_ret
   exact ⟨by rw [E.out]; rfl,q0a (blw1 _ _) (blw1 _ _)⟩
 ·have t1:(f.W == g.W)=false:=(by simp [hW]);have E:Hid (aliB f g=false):=(by rw [Hid,N.out]; simp [hW]);clear hW N;go_enter Tryz.func27,Tryz.ntmps27
  go_wp2
  go_ret
  exact ⟨by rw [E.out]; rfl,q0a (blw1 _ _) (blw1 _ _)⟩
def selP (b:Bool) (x:Int):Bool:=!b || decide (0 < x)
def sumP (b:Bool) (l:List Int):Int:=(l.filter (selP b)).foldr (· + ·) 0
def cntP (b:Bool) (l:List Int):Int:=((l.filter (selP b)).length:Nat)
theorem foldr_snoc (l:List Int) (x:Int):(l ++ [x]).foldr (· + ·) 0=l.foldr (· + ·) 0+x:=by
 induction l with
 | nil=>simp
 | cons y t ih=>simp only [List.cons_append,List.foldr_cons,ih]; omega
theorem sumP_snoc (b:Bool) (l:List Int) (x:Int):sumP b (l ++ [x])=sumP b l+if selP b x then x else 0:=by
 unfold sumP;rw [List.filter_append];by_cases h:selP b x=true
 ·rw [if_pos h,List.filter_cons_of_pos h,List.filter_nil,foldr_snoc]
 ·rw [if_neg h,List.filter_cons_of_neg h,List.filter_nil,List.append_nil]; omega
theorem cntP_snoc (b:Bool) (l:List Int) (x:Int):cntP b (l ++ [x])=cntP b l+if selP b x then 1 else 0:=by
 unfold cntP;rw [List.filter_append];by_cases h:selP b x=true
 ·rw [if_pos h,List.filter_cons_of_pos h,List.filter_nil,List.length_append,List.length_singleton]; omega
 ·rw [if_neg h,List.filter_cons_of_neg h,List.filter_nil,List.append_nil]; omega
theorem sumP_bd (b:Bool) (l:List Int) (h:∀ x∈l,-4294967296≤x∧x≤4294967296) : -(4294967296 * (l.length:Int))≤sumP b l∧sumP b l≤4294967296 * (l.length:Int):=by
 unfold sumP
 induction l with
 | nil=>simp
 | cons x t ih=>
  have h1:=h x (by simp);have h2:=ih (fun y hy=>h y (by simp [hy]));rw [List.filter_cons,List.length_cons];split
  ·rw [List.foldr_cons]; omega
  ·omega
theorem cntP_bd (b:Bool) (l:List Int):0≤cntP b l∧cntP b l≤l.length:=by
 unfold cntP;have:=List.length_filter_le (selP b) l;omega
def pixR (z:Int):Int:=if -4294967296≤z∧z≤4294967296 then z else 0
end Go.Proofs.YtgnjhlnolihgcaaGreat
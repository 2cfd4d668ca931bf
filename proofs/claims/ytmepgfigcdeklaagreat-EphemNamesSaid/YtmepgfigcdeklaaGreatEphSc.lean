import Derived.Test.YtmepgfigcdeklaaGreatMg15
import Derived.Test.YtmepgfigcdeklaaGreatEphG
set_option maxHeartbeats 8000000
set_option maxRecDepth 100000
namespace Go.Proofs.YtmepgfigcdeklaaGreat
open Lib renaming hid → lh
open Go.RowKit
attribute [local go_sem ↓] Go.wp_at_zero Go.wp_at_succ
def ckI8 (lo hi:Int):Int:=if chkI lo hi then 0 else 8
def ckV8 (v:V6):Int:=if chkV v then 0 else 8
theorem chkI_1 {lo hi:Int} (h:hi < lo):chkI lo hi=false:=by unfold chkI; rw [decide_eq_false (show ¬ lo≤hi by omega)]; rfl
theorem chkI_2 {lo hi:Int} (h:lo < -2305843009213693952):chkI lo hi=false:=by unfold chkI; rw [decide_eq_false (show ¬ -2305843009213693952≤lo by omega)]; simp
theorem chkI_3 {lo hi:Int} (h:2305843009213693952 < hi):chkI lo hi=false:=by unfold chkI; rw [decide_eq_false (show ¬ hi≤2305843009213693952 by omega)]; simp
theorem chkI_0 {lo hi:Int} (h1:¬ hi < lo) (h2:¬ lo < -2305843009213693952) (h3:¬ 2305843009213693952 < hi):chkI lo hi=true:=by unfold chkI; rw [decide_eq_true (show lo≤hi by omega),decide_eq_true (show -2305843009213693952≤lo by omega),decide_eq_true (show hi≤2305843009213693952 by omega)]; rfl
theorem ckI8_0 {lo hi:Int} (h:chkI lo hi=true):ckI8 lo hi=0:=by unfold ckI8; rw [h]; rfl
theorem ckI8_8 {lo hi:Int} (h:chkI lo hi=false):ckI8 lo hi=8:=by unfold ckI8; rw [h]; rfl
def lo6 (v:V6) (k:Nat):Int:=if k=0 then v.l0 else if k=1 then v.l1 else v.l2
def hi6 (v:V6) (k:Nat):Int:=if k=0 then v.h0 else if k=1 then v.h1 else v.h2
theorem ckV8_0 {v:V6} (h:∀ k,k < 3→chkI (lo6 v k) (hi6 v k)=true):ckV8 v=0:=by
 unfold ckV8 chkV;rw [show chkI v.l0 v.h0=true from h 0 (by omega),show chkI v.l1 v.h1=true from h 1 (by omega),show chkI v.l2 v.h2=true from h 2 (by omega)]; rfl
theorem ckV8_8 {v:V6} {k:Nat} (hk:k < 3) (h:chkI (lo6 v k) (hi6 v k)=false):ckV8 v=8:=by
 unfold ckV8 chkV;obtain rfl | rfl | rfl:k=0∨k=1∨k=2:=by omega
 ·rw [show chkI v.l0 v.h0=false from h]; rfl
 ·rw [show chkI v.l1 v.h1=false from h]; simp
 ·rw [show chkI v.l2 v.h2=false from h]; simp
theorem spcheck1_any (lo hi:Int) (g:Nat) (w:World) (hg:BlkV w g 36 #[.int .i64 lo,.int .i64 hi]) :
  Calls Tryz.prog 140 #[.slice (some ⟨g,0,none⟩) 1 1] w fun e w'=>e=.returned (.int .i64 (ckI8 lo hi))∧Below w.heap.size w w':=by
 have KG:=lh hg;clear hg;go_enter Tryz.func140,Tryz.ntmps140
 go_wp2
 go_loopw [7] (fun s7 wr=>∃ k:Nat,k≤1∧s7=.int .i64 k∧Below w.heap.size w wr∧(k=1→chkI lo hi=true)) (fun v _=>1 - (intOf v).toNat)
 case atStart=>exact ⟨0,by omega,rfl,Below.refl _ _,fun h=>by omega⟩
 case round=>
  obtain ⟨k,hk,rfl,hb,hc⟩:=hrel;have HB:=lh hb;have K1:=lh (KG.out.keep hb);clear hb;by_cases hk1:k < 1
  ·obtain rfl:k=0:=by omega
   clear hc;have c0:=K1.out.at_ 0 rfl;have c1:=K1.out.at_ 1 rfl;have hlg:=K1.out.lt;go_upto_region 4 with fail
   generalize hwx:wr.alloc (.cells #[.int .i64 lo,.int .i64 hi] 36)=wx at *;have KX:Hid (BlkV wx wr.heap.size 36 #[.int .i64 lo,.int .i64 hi]):=(by rw [← hwx]; exact BlkV.fresh rfl _ _);replace HB:Hid (Below w.heap.size w wx):=(by rw [← hwx]; exact q0a HB.out (blw1 _ _));clear hwx c0 c1 hlg;have c0:=KX.out.at_ 0 rfl;have c1:=KX.out.at_ 1 rfl;by_cases h0:hi < lo
   ·have t0:decide (hi < lo)=true:=decide_eq_true h0;go_wp2
    go_ret
    exact ⟨by rw [ckI8_8 (chkI_1 h0)]; rfl,HB.out⟩
   ·have t0:decide (hi < lo)=false:=decide_eq_false h0;by_cases h1:lo < -2305843009213693952
    ·have t1:decide (lo < -2305843009213693952)=true:=decide_eq_true h1;go_wp2
     go_ret
     exact ⟨by rw [ckI8_8 (chkI_2 h1)]; rfl,HB.out⟩
    ·have t1:decide (lo < -2305843009213693952)=false:=decide_eq_false h1;by_cases h2:2305843009213693952 < hi
     ·have t2:decide (2305843009213693952 < hi)=true:=decide_eq_true h2;go_wp2
      go_ret
      exact ⟨by rw [ckI8_8 (chkI_3 h2)]; rfl,HB.out⟩
     ·have t2:decide (2305843009213693952 < hi)=false:=decide_eq_false h2;have hok:chkI lo hi=true:=(chkI_0 h0 h1 h2);go_wp2
      go_roundw
      case rel=>exact ⟨1,by omega,by go_num,HB.out,fun _=>hok⟩
      case measure=>simp [intOf]
  ·obtain rfl:k=1:=by omega
   have E:=lh (ckI8_0 (hc rfl));clear hc;go_wp2
   go_ret
   exact ⟨by rw [E.out]; rfl,HB.out⟩
theorem spcheck_any (lo hi:Int) (w:World):Calls Tryz.prog 101 #[.agg #[.int .i64 lo,.int .i64 hi]] w fun e w'=>e=.returned (.int .i64 (ckI8 lo hi))∧Below w.heap.size w w':=by
 go_enter Tryz.func101,Tryz.ntmps101
 go_wp2_with fail
 generalize hwx:(w.alloc (.cells #[.int .i64 lo,.int .i64 hi] 36)).alloc (.cells #[.int .i64 lo,.int .i64 hi] 36)=wx at *;have KX:BlkV wx (w.heap.size+1) 36 #[.int .i64 lo,.int .i64 hi]:=(by rw [← hwx]; exact BlkV.fresh (by simp) _ _);have HB:Hid (Below w.heap.size w wx):=(by rw [← hwx]; exact q0a (blw1 _ _) (blw1 _ _));clear hwx;refine (spcheck1_any lo hi _ wx KX).mono ?_;rintro e w1 ⟨rfl,hb⟩;replace HB:=lh (q0a HB.out hb);clear hb KX;go_wp2
 go_ret
 exact ⟨rfl,HB.out⟩
theorem sphcheck_any (v:V6) (w:World):Calls Tryz.prog 51 #[.agg #[.int .i64 v.l0,.int .i64 v.h0,.int .i64 v.l1,.int .i64 v.h1,.int .i64 v.l2,.int .i64 v.h2]] w fun e w'=>e=.returned (.int .i64 (ckV8 v))∧Below w.heap.size w w':=by
 go_enter Tryz.func51,Tryz.ntmps51
 go_wp2
 generalize hwx:w.alloc (.cells #[.int .i64 v.l0,.int .i64 v.h0,.int .i64 v.l1,.int .i64 v.h1,.int .i64 v.l2,.int .i64 v.h2] 38)=wx at *;have KX:Hid (BlkV wx w.heap.size 38 #[.int .i64 v.l0,.int .i64 v.h0,.int .i64 v.l1,.int .i64 v.h1,.int .i64 v.l2,.int .i64 v.h2]):=(by rw [← hwx]; exact BlkV.fresh rfl _ _);have BX:Hid (Below w.heap.size w wx):=(by rw [← hwx]; exact blw1 _ _);clear hwx;go_loopw [5] (fun s5 wr=>∃ k:Nat,k≤3∧s5=.int .i64 k∧Below wx.heap.size wx wr∧∀ j,j < k→chkI (lo6 v j) (hi6 v j)=true) (fun v _=>3 - (intOf v).toNat)
 case atStart=>exact ⟨0,by omega,rfl,Below.refl _ _,fun j h=>by omega⟩
 case round=>
  obtain ⟨k,hk,rfl,hb,hc⟩:=hrel;have HB:=lh (q0a BX.out hb);have B1:=lh hb;have K1:=lh (KX.out.keep hb);clear hb;by_cases hk3:k < 3
  ·have tk':decide ((k:Int) < 3)=true:=decide_eq_true (by omega);have lk:=K1.out.lt
   obtain ⟨c0,c1⟩:wr.cell? ⟨w.heap.size,k * 2,none⟩=some (.int .i64 (lo6 v k))∧wr.cell? ⟨w.heap.size,k * 2+1,none⟩=some (.int .i64 (hi6 v k)):=by
    have hk':k=0∨k=1∨k=2:=(by omega);rcases hk' with rfl | rfl | rfl
    ·exact ⟨K1.out.at_ 0 rfl,K1.out.at_ 1 rfl⟩
    ·exact ⟨K1.out.at_ 2 rfl,K1.out.at_ 3 rfl⟩
    ·exact ⟨K1.out.at_ 4 rfl,K1.out.at_ 5 rfl⟩
   have BAD:=lh (ckV8_8 (v:=v) hk3)
   have hnx:∀ b,chkI (lo6 v k) (hi6 v k)=b→(b=true→∀ j,j < k+1→chkI (lo6 v j) (hi6 v j)=true):=fun b h e j hj=>by
    by_cases hjk:j=k
    ·rw [hjk,h,e]
    ·exact hc j (by omega)
   clear hc;have i3:(k:Int) < 3:=(by omega);have i0:(0:Int)≤(k:Int):=(by omega);generalize lo6 v k=lo at *;generalize hi6 v k=hi at *;have HN:=lh hnx;clear hnx;go_wp2_with fail
   refine (spcheck_any lo hi _).mono ?_;rintro e w2 ⟨rfl,hb⟩;replace HB:=lh (q0a HB.out hb);replace B1:=lh (q0a B1.out hb);clear hb c0 c1
   cases hcc:chkI lo hi with
   | true=>
    rw [ckI8_0 hcc];have HX:=lh (HN.out true hcc rfl);clear HN BAD hcc;go_wp2
    go_roundw
    case rel=>exact ⟨k+1,by omega,by go_num,B1.out,HX.out⟩
    case measure=>simp [intOf]; omega
   | false=>
    rw [ckI8_8 hcc];have E:=lh (BAD.out hcc);clear HN BAD hcc;go_wp2
    go_ret
    exact ⟨by rw [E.out]; rfl,HB.out⟩
  ·obtain rfl:k=3:=by omega
   have tk':decide (((3:Nat):Int) < 3)=false:=rfl;have E:=lh (ckV8_0 hc);clear hc;go_wp2
   go_ret
   exact ⟨by rw [E.out]; rfl,HB.out⟩
end Go.Proofs.YtmepgfigcdeklaaGreat
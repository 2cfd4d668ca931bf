import Derived.Test.YtgnjhlnolihgcaaGreatRows
import Derived.Test.YtgnjhlnolihgcaaGreatMem
import Derived.WalkKit
import Derived.WalkSpells
import Derived.WalkLawsBesides
import Derived.BigQuiet
import Derived.Deep.QuietTactic
import Derived.Deep.RegionHeld3
import Derived.Deep.DrawnRows
set_option maxHeartbeats 400000
namespace Go.Proofs.YtgnjhlnolihgcaaGreat
open Go.RowKit
attribute [local go_sem ↓] Go.wp_at_zero Go.wp_at_succ
theorem info32:(Tryz.prog.info? 146).map (fun i=>(i.zero,i.size,i.bytes))=some (some (.int .u32 0),1,4):=by kernel_rfl
theorem trim_any (A:Option Addr) (l:List Nat) (c:Nat) (w:World) (hs:Sl w A l c) :
  Calls Tryz.prog 160 #[.slice A l.length c] w fun e w'=>e=.returned (.slice A (limbs (val l)).length c)∧w=w':=by
 rw [← trim_len hs.lim];have hc:=hs.le;have hlen:=hs.len;have h:=hs.rd;have Hs:=Lib.hid hs; clear hs;go_enter Tryz.func160,Tryz.ntmps160
 go_wp2
 go_loop [3] (fun t=>∃ k:Nat,k≤l.length∧t=.int .i64 k∧trimN l k=trimN l l.length) (fun t=>(intOf t).toNat)
 case atStart=>exact ⟨_,by omega,rfl,rfl⟩
 case round=>
  obtain ⟨k,hk,rfl,hn⟩:=hrel;have Hn:=Lib.hid hn; clear hn
  cases k with
  | succ k=>
   obtain ⟨b,o,rfl,hx⟩:=h.at_ (k:=k) (by omega);by_cases hz:(((l[k]?.getD 0:Nat):Int) == 0)=true
   ·go_wp2
    go_round
    case rel=>exact ⟨k,by omega,by go_num,by rw [← Hn.out,trimN,if_pos (by simpa using hz)]⟩
    case measure=>simp [intOf]
   ·go_wp2
    go_ret
    exact ⟨by rw [← Hn.out,trimN,if_neg (by simpa using hz)]; rfl,rfl⟩
  | zero=>
   go_wp2
   go_ret
   exact ⟨by rw [← Hn.out]; rfl,rfl⟩
theorem clone_any (A:Option Addr) (l:List Nat) (c:Nat) (w:World) (hs:Sl w A l c) :
  Calls Tryz.prog 127 #[.slice A l.length c] w fun e w'=>∃ A' c',e=.returned (.slice A' l.length c')∧Ow w' w.heap.size 146 (.slice A' l.length c') l∧Below w.heap.size w w':=by
 obtain ⟨i0,hi,hz0,hz1,hz2⟩:=info_parts info32;have Hs:=Lib.hid hs; clear hs;rcases A with _ | ad
 ·have hl:l=[]:=by
   rcases l with _ | ⟨x,t⟩
   ·rfl
   ·obtain ⟨_,_,h,_⟩:=Hs.out.rd (by simp);cases h
  subst hl;have hn:=Lib.run_eql_slice_nil (P:=Tryz.prog);go_enter Tryz.func127,Tryz.ntmps127
  go_wp2
  go_ret
  exact ⟨none,0,rfl,Ow.nil0 _ _ _,Below.refl _ _⟩
 ·have hn:=Lib.run_eql_slice_nil (P:=Tryz.prog);go_enter Tryz.func127,Tryz.ntmps127
  go_wp2_with (at_builtin; refine wpList_clone rfl _ _ 44 rfl 146 i0 Tryz.underlying44 hi hz0 hz1 hz2 rfl (some ad) l.length l c rfl rfl Hs.out.rd Hs.out.len ?_; intro A' c' w1 hown hb)
  go_ret
  exact ⟨A',c',rfl,hown,hb⟩
theorem q0v (neg:Bool) (A:Option Addr) (l:List Nat) (c:Nat) (w:World) (hs:Sl w A l c) :
  Calls Tryz.prog 117 #[.bool neg,.slice A l.length c] w (WRes (outN neg (val l)) w):=by
 have Hs:=Lib.hid hs; clear hs;by_cases h1:4096 < (limbs (val l)).length
 ·have hr:outN neg (val l)=((false,[]),16):=(by rw [outN,if_neg (by omega)]);rw [hr];clear hr;go_enter Tryz.func117,Tryz.ntmps117
  go_wp2_with fail
  refine (trim_any _ _ _ _ (Hs.out.alloc _)).mono ?_;rintro e w1 ⟨rfl,rfl⟩;go_wp2
  exact bodyPost_ret (v:=.tuple #[.agg #[.bool false,.slice none 0 0],.int .i64 16]) (by simp [results,Tryz.results117,go_sem]) rfl ⟨none,0,rfl,Sl.nil _ _ _,blw1 _ _⟩
 ·have hr:outN neg (val l)=((neg && decide (0 < val l),limbs (val l)),0):=(by rw [outN,if_pos (by omega)]);rw [hr];clear hr;have hp:=limbs_len_pos (n:=val l)
  have Hs2:Hid (Sl w A (limbs (val l)) c):=by
   have:=Hs.out;have h2:=this.rd.take (trimN l l.length);rw [trim_eq this.lim] at h2;have h3:=trimN_le l l.length;rw [trim_len this.lim] at h3;exact ⟨h2,lim_limbs _,by have:=this.le; omega,by have:=this.len; omega⟩
  by_cases h0:0 < (limbs (val l)).length
  ·have hd:(neg && decide (0 < val l))=neg:=(by rw [decide_eq_true (hp.1 h0),Bool.and_true]);rw [hd];clear hd hp;cases neg
   all_goals
    go_enter Tryz.func117,Tryz.ntmps117
    go_wp2_with fail
    refine (trim_any _ _ _ _ (Hs.out.alloc _)).mono ?_;rintro e w1 ⟨rfl,rfl⟩;go_wp2
   ·exact bodyPost_ret (v:=.tuple #[.agg #[.bool false,.slice A (limbs (val l)).length c],.int .i64 0]) (by simp [results,Tryz.results117,go_sem]) rfl ⟨A,c,rfl,Hs2.out.alloc _,blw1 _ _⟩
   ·exact bodyPost_ret (v:=.tuple #[.agg #[.bool true,.slice A (limbs (val l)).length c],.int .i64 0]) (by simp [results,Tryz.results117,go_sem]) rfl ⟨A,c,rfl,Hs2.out.alloc _,blw1 _ _⟩
  ·have hd:(neg && decide (0 < val l))=false:=(by rw [decide_eq_false (by omega),Bool.and_false]);rw [hd];clear hd hp;cases neg
   all_goals
    go_enter Tryz.func117,Tryz.ntmps117
    go_wp2_with fail
    refine (trim_any _ _ _ _ (Hs.out.alloc _)).mono ?_;rintro e w1 ⟨rfl,rfl⟩;go_wp2
    exact bodyPost_ret (v:=.tuple #[.agg #[.bool false,.slice A (limbs (val l)).length c],.int .i64 0]) (by simp [results,Tryz.results117,go_sem]) rfl ⟨A,c,rfl,Hs2.out.alloc _,blw1 _ _⟩
end Go.Proofs.YtgnjhlnolihgcaaGreat
import Derived.Test.YtcpofeehpijbcaaGreatDoorCd4
set_option maxHeartbeats 4000000
set_option maxRecDepth 100000
namespace Go.Proofs.YtcpofeehpijbcaaGreatDoor
open Lib renaming hid → lh
open Go.RowKit Go.Lib Go.Shelf
attribute [local go_sem ↓] Go.wp_at_zero Go.wp_at_succ
theorem kcheck_ok (c:CD) (hc:OkK c) (h:chkC c=true) (w:World) (hE:Env w) :
  Calls Tryz.prog 37 #[.agg #[.string ⟨c.k.toArray⟩,.int .u8 c.kd,.bool c.y,.int .i64 c.n,.int .i64 c.e,.string ⟨c.t.toArray⟩,.string ⟨c.o.toArray⟩]] w fun e w'=>e=.returned (.int .i64 0)∧Below w.heap.size w w':=by
 have:=q0v c hc.ok hc.o hc.t hc.e w hE;rw [if_pos h] at this;exact this
theorem print_one (cs:List CD) (A:Option Addr) (B c:Nat) (w:World) (hs:SlC w B A cs c) (hE:Env w) (hn:cs.length≤200) (hv:∀ x∈cs,chkC x=true∧oneL x) (hl:(cs.flatMap lineS).length≤1000000) :
  Calls Tryz.prog 35 #[.slice A cs.length c] w fun e w'=>e=.returned (.tuple #[.string ⟨(cs.flatMap lineS).toArray⟩,.int .i64 0])∧Below w.heap.size w w':=by
 have S:=lh hs;have EN:=lh hE;have V:=lh hv;have B0:Hid (Below w.heap.size w (w.alloc (.cells #[.pointer none,.slice none 0 0] 114))):=blw1 _ _;have K0:Hid (Lib.IsBuilder 114 5 w.heap.size w.heap.size (Lib.byteCells ((cs.take 0).flatMap lineS)) (w.alloc (.cells #[.pointer none,.slice none 0 0] 114))):=Lib.fresh_isBuilder _ _ w;have t1:decide ((200:Int) < (cs.length:Int))=false:=decide_eq_false (by omega);clear hs hE hv;go_enter Tryz.func35,Tryz.ntmps35
 go_wp2
 generalize hw0:w.alloc (.cells #[.pointer none,.slice none 0 0] 114)=w0 at *;clear hw0;go_loopw [13] (fun s13 wr=>∃ k:Nat,k≤cs.length∧s13=.int .i64 k∧Lib.IsBuilder 114 5 w.heap.size w.heap.size (Lib.byteCells ((cs.take k).flatMap lineS)) wr∧Below w.heap.size w wr) (fun v _=>cs.length - (RowKit.intOf v).toNat)
 case atStart=>exact ⟨0,Nat.zero_le _,rfl,K0.out,B0.out⟩
 case round=>
  obtain ⟨k,hk,rfl,hbd,hbw⟩:=hrel;have KB:=lh hbd;have HB:=lh hbw;clear hbd hbw K0 B0;by_cases hlt:k < cs.length
  ·have tk:decide ((k:Int) < (cs.length:Int))=true:=decide_eq_true (by omega);have S2:=lh (S.out.below HB.out);obtain ⟨b,o,rfl,-,q0,q1,q2,q3,q4,q5,q6,hok⟩:=S2.out.at_ hlt;have OK:=lh hok;obtain ⟨hck,h70⟩:=V.out _ (List.getElem_mem hlt);have hle2:=flat_le lineS cs (k+1);have FS:=lh (flat_step lineS cs k hlt);have hlk:=chk_len hck;have CK:=lh (fun W (h:Env W)=>kcheck_ok (cs[k]'hlt) OK.out hck W h);have LN:=lh (fun W (h:Env W)=>lines_any (cs[k]'hlt) OK.out.ok (by omega) (by omega) OK.out.o h70 W h);rw [FS.out,List.length_append] at hle2;clear hok S2 hck h70 hlk OK;skip;generalize lineS (cs[k]'hlt)=ln at *;generalize cs[k]'hlt=x at *;generalize hp:(cs.take k).flatMap lineS=pr at *;clear hp;go_wp2_with fail
   generalize hwb:wr.alloc (.cells #[.string ⟨x.k.toArray⟩,.int .u8 x.kd,.bool x.y,.int .i64 x.n,.int .i64 x.e,.string ⟨x.t.toArray⟩,.string ⟨x.o.toArray⟩] 31)=wb at *;have HBb:Hid (Below w.heap.size w wb):=(by rw [← hwb]; exact q0a HB.out (blw1 _ _));have KBb:Hid (Lib.IsBuilder 114 5 w.heap.size w.heap.size (Lib.byteCells pr) wb):=(by rw [← hwb]; exact IsBuilder.below_ KB.out (blw1 _ _));have XX:Hid (BlkV wb wr.heap.size 31 #[.string ⟨x.k.toArray⟩,.int .u8 x.kd,.bool x.y,.int .i64 x.n,.int .i64 x.e,.string ⟨x.t.toArray⟩,.string ⟨x.o.toArray⟩]):=(by rw [← hwb]; exact BlkV.fresh rfl _ _);clear hwb q0 q1 q2 q3 q4 q5 q6 KB;have c0:=XX.out.at_ 0 rfl;have c1:=XX.out.at_ 1 rfl;have c2:=XX.out.at_ 2 rfl;have c3:=XX.out.at_ 3 rfl;have c4:=XX.out.at_ 4 rfl;have c5:=XX.out.at_ 5 rfl;have c6:=XX.out.at_ 6 rfl;go_wp2_with fail
   refine (CK.out _ (EN.out.keep HBb.out)).mono ?_;rintro e w1 ⟨rfl,hb⟩;clear c0 c1 c2 c3 c4 c5 c6;replace XX:=lh (XX.out.keep hb);replace KBb:=lh (IsBuilder.below_ KBb.out hb);replace HBb:=lh (q0a HBb.out hb);clear hb;have c0:=XX.out.at_ 0 rfl;have c1:=XX.out.at_ 1 rfl;have c2:=XX.out.at_ 2 rfl;have c3:=XX.out.at_ 3 rfl;have c4:=XX.out.at_ 4 rfl;have c5:=XX.out.at_ 5 rfl;have c6:=XX.out.at_ 6 rfl;go_wp2_with fail
   refine (LN.out _ (EN.out.keep HBb.out)).mono ?_;rintro e w2 ⟨rfl,hb⟩;clear c0 c1 c2 c3 c4 c5 c6 XX;replace KBb:=lh (IsBuilder.below_ KBb.out hb);replace HBb:=lh (q0a HBb.out hb);clear hb;go_wp2_with fail
   refine (bW_any _ _ _ _ _ KBb.out (by omega) HBb.out.size).mono ?_;rintro e w3 ⟨rfl,hbd,hb⟩;replace HBb:=lh (HBb.out.trans hb);have K3:=lh hbd;clear hb hbd KBb;go_wp2
   go_roundw
   case rel=>exact ⟨k+1,by omega,by go_num,by rw [FS.out]; exact K3.out,HBb.out⟩
   case measure=>simp [RowKit.intOf]; omega
  ·have tk:decide ((k:Int) < (cs.length:Int))=false:=decide_eq_false (by omega);have ek:cs.take k=cs:=List.take_of_length_le (by omega);rw [ek] at KB;clear ek V;go_wp2_with fail
   refine (Tryz.Builder_String_any w.heap.size w.heap.size (cs.flatMap lineS) _ KB.out HB.out.size).mono ?_;rintro e w1 ⟨rfl,hb⟩;replace HB:=lh (HB.out.trans hb);clear hb;go_wp2
   go_ret2
   exact ⟨rfl,HB.out⟩
end Go.Proofs.YtcpofeehpijbcaaGreatDoor
import Derived.Test.YtcpofeehpijbcaaGreatDoorMg5
set_option maxHeartbeats 4000000
set_option maxRecDepth 100000
namespace Go.Proofs.YtcpofeehpijbcaaGreatDoor
open Lib renaming hid → lh
open Go.Lib
def cdSimple:CD:=⟨[83,73,77,80,76,69],2,true,0,0,[],[]⟩
def cdBitpix:CD:=⟨[66,73,84,80,73,88],3,false,8,0,[],[]⟩
def cdNaxis:CD:=⟨[78,65,88,73,83],3,false,0,0,[],[]⟩
def cdSum:CD:=⟨[68,65,84,65,83,85,77],5,false,0,0,[48],[]⟩
def cdCode (s:List UInt8):CD:=⟨[67,72,69,67,75,83,85,77],5,false,0,0,s,[]⟩
def cds4:List CD:=[cdSimple,cdBitpix,cdNaxis,cdSum]
def cds5 (s:List UInt8):List CD:=cds4 ++ [cdCode s]
def unitS (s:List UInt8):List UInt8:=(cds5 s).flatMap lineS ++ (69 :: 78 :: 68 :: List.replicate 77 32) ++ List.replicate 2400 32
def code0:List UInt8:=List.replicate 16 48
def code1:List UInt8:=codeS 4250459722
theorem unit_len (s:List UInt8) (h:s=code0∨s=code1):(unitS s).length=2880:=by
 rcases h with rfl | rfl <;> decide +kernel
theorem unit_tot0:tot (w4 (unitS code0))=44507573:=by decide +kernel
theorem unit_tot1:tot (w4 (unitS code1))=4294967295:=by decide +kernel
theorem cds_ok0:(cds5 code0).all (fun x=>chkC x && (x.kd != 1) && (x.kd != 4) && decide ((q0o x).length≤70))=true:=by decide +kernel
theorem cds_ok1:(cds5 code1).all (fun x=>chkC x && (x.kd != 1) && (x.kd != 4) && decide ((q0o x).length≤70))=true:=by decide +kernel
theorem cds_good {s:List UInt8} (h:s=code0∨s=code1):∀ x∈cds5 s,chkC x=true∧x.kd≠1∧x.kd≠4∧(q0o x).length≤70:=by
 intro x hx
 have h2:(cds5 s).all (fun x=>chkC x && (x.kd != 1) && (x.kd != 4) && decide ((q0o x).length≤70))=true:=by
  rcases h with rfl | rfl
  ·exact cds_ok0
  ·exact cds_ok1
 have h3:=List.all_eq_true.1 h2 x hx;simp only [Bool.and_eq_true,bne_iff_ne,decide_eq_true_eq] at h3;exact ⟨h3.1.1.1,h3.1.1.2,h3.1.2,h3.2⟩
theorem cds_len {s:List UInt8} (h:s=code0∨s=code1):((cds5 s).flatMap lineS).length=400:=by
 rcases h with rfl | rfl <;> decide +kernel
theorem unit_head:(unitS code1).take 30=[83,73,77,80,76,69,32,32,61] ++ (List.replicate 20 32 ++ [84]):=by decide +kernel
theorem unit_mid:((unitS code1).drop 240).take 20=[68,65,84,65,83,85,77,32,61,32,39,48,32,32,32,32,32,32,32,39]:=by decide +kernel
theorem code_ex:codeS 3426738146=[104,99,72,106,106,99,57,103,104,99,69,103,104,99,57,103]:=by decide +kernel
theorem sum_ex:tot (w4 [255,255,255,255,0,0,0,2])=2:=by decide +kernel
end Go.Proofs.YtcpofeehpijbcaaGreatDoor
namespace Go.Proofs.YtcpofeehpijbcaaGreatDoor
open Lib renaming hid → lh
open Go.RowKit Go.Lib Go.Shelf
attribute [local go_sem ↓] Go.wp_at_zero Go.wp_at_succ
theorem BuilderAt.below_ {T e:TypeId} {B b:Nat} {p:Value} {bs:List Value} {W W':World} (h:Lib.BuilderAt T e B b p bs W) (hb:Below W.heap.size W W'):Lib.BuilderAt T e B b p bs W':=by
 have hlt:=h.lt;obtain ⟨hB,v,hv,hown,hne⟩:=h;exact ⟨hB,v,(hb.block b hlt).trans hv,hown.kept (row:=none) ⟨hb.os,hb.tape,hb.output,hb.size,fun k hk _=>hb.block k hk⟩ (Classical.em _),hne⟩
theorem IsBuilder.below_ {T e:TypeId} {B b:Nat} {bs:List Value} {W W':World} (h:Lib.IsBuilder T e B b bs W) (hb:Below W.heap.size W W'):Lib.IsBuilder T e B b bs W':=
 h.elim (fun x=>.inl (BuilderAt.below_ x hb)) (fun x=>.inr (BuilderAt.below_ x hb))
theorem strCells_mk (l:List UInt8):Lib.strCells ⟨l.toArray⟩=Lib.byteCells l:=rfl
theorem byteCells_app (a b:List UInt8):Lib.byteCells (a ++ b)=Lib.byteCells a ++ Lib.byteCells b:=by unfold Lib.byteCells; rw [List.map_append]
theorem byteCells_len (a:List UInt8):(Lib.byteCells a).length=a.length:=by unfold Lib.byteCells; rw [List.length_map]
theorem flat_step {α β:Type} (f:α→List β) (l:List α) (k:Nat) (hk:k < l.length):(l.take (k+1)).flatMap f=(l.take k).flatMap f ++ f (l[k]'hk):=by
 rw [← List.take_append_getElem hk,List.flatMap_append]; simp
theorem flat_le {α β:Type} (f:α→List β) (l:List α) (k:Nat):((l.take k).flatMap f).length≤(l.flatMap f).length:=by
 conv=>rhs; rw [← List.take_append_drop k l,List.flatMap_append,List.length_append]
 omega
theorem bW_any (B b:Nat) (a s:List UInt8) (w:World) (h:Lib.IsBuilder 114 5 B b (Lib.byteCells a) w) (hl:a.length+s.length≤140737488355328) (hB:B≤w.heap.size) :
  Calls Tryz.prog 83 #[.pointer (some ⟨b,0,none⟩),.string ⟨s.toArray⟩] w fun e w'=>e=.returned (.tuple #[.int .i64 s.length,.nilIface])∧Lib.IsBuilder 114 5 B b (Lib.byteCells (a ++ s)) w'∧Below B w w':=by
 have hsz:(ByteArray.mk s.toArray).size=s.length:=(by simp [ByteArray.size]);refine (bWrite_any B b (Lib.byteCells a) ⟨s.toArray⟩ w h (by rw [byteCells_len,hsz]; exact hl) hB).mono ?_;rintro e w' ⟨rfl,h1,h2⟩;rw [strCells_mk,← byteCells_app] at h1;exact ⟨by rw [hsz],h1,h2⟩
theorem print_good (cs:List CD) (A:Option Addr) (B c:Nat) (w:World) (hs:SlC w B A cs c) (hE:Env w) (hn:cs.length≤200) (hv:∀ x∈cs,chkC x=true∧x.kd≠1∧x.kd≠4∧(q0o x).length≤70) (hl:(cs.flatMap lineS).length≤1000000) :
  Calls Tryz.prog 35 #[.slice A cs.length c] w fun e w'=>e=.returned (.tuple #[.string ⟨(cs.flatMap lineS).toArray⟩,.int .i64 0])∧Below w.heap.size w w':=by
 have S:=lh hs;have EN:=lh hE;have V:=lh hv;have B0:Hid (Below w.heap.size w (w.alloc (.cells #[.pointer none,.slice none 0 0] 114))):=blw1 _ _;have K0:Hid (Lib.IsBuilder 114 5 w.heap.size w.heap.size (Lib.byteCells ((cs.take 0).flatMap lineS)) (w.alloc (.cells #[.pointer none,.slice none 0 0] 114))):=Lib.fresh_isBuilder _ _ w;have t1:decide ((200:Int) < (cs.length:Int))=false:=decide_eq_false (by omega);clear hs hE hv;go_enter Tryz.func35,Tryz.ntmps35
 go_wp2
 generalize hw0:w.alloc (.cells #[.pointer none,.slice none 0 0] 114)=w0 at *;clear hw0;go_loopw [13] (fun s13 wr=>∃ k:Nat,k≤cs.length∧s13=.int .i64 k∧Lib.IsBuilder 114 5 w.heap.size w.heap.size (Lib.byteCells ((cs.take k).flatMap lineS)) wr∧Below w.heap.size w wr) (fun v _=>cs.length - (RowKit.intOf v).toNat)
 case atStart=>exact ⟨0,Nat.zero_le _,rfl,K0.out,B0.out⟩
 case round=>
  obtain ⟨k,hk,rfl,hbd,hbw⟩:=hrel;have KB:=lh hbd;have HB:=lh hbw;clear hbd hbw K0 B0;by_cases hlt:k < cs.length
  ·have tk:decide ((k:Int) < (cs.length:Int))=true:=decide_eq_true (by omega);have S2:=lh (S.out.below HB.out);obtain ⟨b,o,rfl,-,q0,q1,q2,q3,q4,q5,q6,hok⟩:=S2.out.at_ hlt;have OK:=lh hok;obtain ⟨hck,hkd1,hkd4,h70⟩:=V.out _ (List.getElem_mem hlt);have hle2:=flat_le lineS cs (k+1);have FS:=lh (flat_step lineS cs k hlt);have hlk:=chk_len hck;have CK:=lh (fun W (h:Env W)=>check_plain (cs[k]'hlt) OK.out.ok OK.out.o hck hkd1 hkd4 h70 W h);have LN:=lh (fun W (h:Env W)=>lines_any (cs[k]'hlt) OK.out.ok (by omega) (by omega) OK.out.o (Or.inr h70) W h);rw [FS.out,List.length_append] at hle2;clear hok S2 hck hkd1 hkd4 h70 hlk OK;skip;generalize lineS (cs[k]'hlt)=ln at *;generalize cs[k]'hlt=x at *;generalize hp:(cs.take k).flatMap lineS=pr at *;clear hp;go_wp2_with fail
   generalize hwb:wr.alloc (.cells #[.string ⟨x.k.toArray⟩,.int .u8 x.kd,.bool x.y,.int .i64 x.n,.int .i64 x.e,.string ⟨x.t.toArray⟩,.string ⟨x.o.toArray⟩] 31)=wb at *;have HBb:Hid (Below w.heap.size w wb):=(by rw [← hwb]; exact q0a HB.out (blw1 _ _));have KBb:Hid (Lib.IsBuilder 114 5 w.heap.size w.heap.size (Lib.byteCells pr) wb):=(by rw [← hwb]; exact IsBuilder.below_ KB.out (blw1 _ _));have XX:Hid (BlkV wb wr.heap.size 31 #[.string ⟨x.k.toArray⟩,.int .u8 x.kd,.bool x.y,.int .i64 x.n,.int .i64 x.e,.string ⟨x.t.toArray⟩,.string ⟨x.o.toArray⟩]):=(by rw [← hwb]; exact BlkV.fresh rfl _ _);clear hwb q0 q1 q2 q3 q4 q5 q6 KB;have c0:=XX.out.at_ 0 rfl;have c1:=XX.out.at_ 1 rfl;have c2:=XX.out.at_ 2 rfl;have c3:=XX.out.at_ 3 rfl;have c4:=XX.out.at_ 4 rfl;have c5:=XX.out.at_ 5 rfl;have c6:=XX.out.at_ 6 rfl;go_wp2_with fail
   refine (CK.out _ (EN.out.keep HBb.out)).mono ?_;rintro e w1 ⟨rfl,hb⟩;clear c0 c1 c2 c3 c4 c5 c6;replace XX:=lh (XX.out.keep hb);replace KBb:=lh (IsBuilder.below_ KBb.out hb);replace HBb:=lh (q0a HBb.out hb);clear hb;have c0:=XX.out.at_ 0 rfl;have c1:=XX.out.at_ 1 rfl;have c2:=XX.out.at_ 2 rfl;have c3:=XX.out.at_ 3 rfl;have c4:=XX.out.at_ 4 rfl;have c5:=XX.out.at_ 5 rfl;have c6:=XX.out.at_ 6 rfl;go_wp2_with fail
   refine (LN.out _ (EN.out.keep HBb.out)).mono ?_;rintro e w2 ⟨rfl,hb⟩;clear c0 c1 c2 c3 c4 c5 c6 XX;replace KBb:=lh (IsBuilder.below_ KBb.out hb);replace HBb:=lh (q0a HBb.out hb);clear hb;go_wp2_with fail
   refine (bW_any _ _ _ _ _ KBb.out (by omega) HBb.out.size).mono ?_;rintro e w3 ⟨rfl,hbd,hb⟩;replace HBb:=lh (HBb.out.trans hb);have K3:=lh hbd;clear hb hbd KBb;go_wp2
   go_roundw
   case rel=>exact ⟨k+1,by omega,by go_num,by rw [FS.out]; exact K3.out,HBb.out⟩
   case measure=>simp [RowKit.intOf]; omega
  ·have tk:decide ((k:Int) < (cs.length:Int))=false:=decide_eq_false (by omega);have ek:cs.take k=cs:=List.take_of_length_le (by omega);rw [ek] at KB;clear ek V;go_wp2_with fail
   refine (Tryz.Builder_String_any w.heap.size w.heap.size (cs.flatMap lineS) _ KB.out HB.out.size).mono ?_;rintro e w1 ⟨rfl,hb⟩;replace HB:=lh (HB.out.trans hb);clear hb;go_wp2
   go_ret2
   exact ⟨rfl,HB.out⟩
end Go.Proofs.YtcpofeehpijbcaaGreatDoor
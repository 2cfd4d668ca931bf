import Derived.Test.YtcpofeehpijbcaaGreatDoorRf1
import Derived.Test.YtcpofeehpijbcaaGreatDoorPaM
set_option maxHeartbeats 4000000
set_option maxRecDepth 100000
namespace Go.Proofs.YtcpofeehpijbcaaGreatDoor
open Lib renaming hid → lh
open Go.RowKit Go.Lib Go.Shelf
attribute [local go_sem ↓] Go.wp_at_zero Go.wp_at_succ
theorem trimR_end {l:List UInt8} (h:endB l=true):trimRightB (l.take (l.length - 1)) 32=trimRightB l 32:=by
 unfold endB at h;rw [beq_iff_eq,List.getLast?_eq_some_iff] at h;obtain ⟨ys,rfl⟩:=h;have e:(ys ++ [32]).take ((ys ++ [32]).length - 1)=ys:=(by rw [List.length_append]; simp);rw [e];unfold trimRightB;rw [List.reverse_append];rfl
theorem trimR_stop {l:List UInt8} (h:endB l=false):trimRightB l 32=l:=by
 unfold trimRightB;rcases List.eq_nil_or_concat l with rfl | ⟨ys,b,rfl⟩
 ·rfl
 ·rw [List.concat_eq_append] at h ⊢
  have hb:(b == (32:UInt8))=false:=by
   unfold endB at h;rw [List.getLast?_append] at h;simpa using h
  rw [List.reverse_append];simp only [List.reverse_cons,List.reverse_nil,List.nil_append,List.cons_append];rw [List.dropWhile_cons,hb];simp
theorem trimL_go {l:List UInt8} (h:hasPrefix l [32]=true):trimLeftB (l.drop 1) 32=trimLeftB l 32:=by
 cases l with
 | nil=>rfl
 | cons a r=>
  have ha:(a == (32:UInt8))=true:=by
   rw [pre_take,beq_iff_eq] at h;simpa using h
  unfold trimLeftB;rw [List.dropWhile_cons,ha];rfl
theorem trimL_stop {l:List UInt8} (h:hasPrefix l [32]=false):trimLeftB l 32=l:=by
 cases l with
 | nil=>rfl
 | cons a r=>
  have ha:(a == (32:UInt8))=false:=by
   rw [pre_take,beq_eq_false_iff_ne] at h;rw [beq_eq_false_iff_ne];intro e;exact h (by rw [e]; rfl)
  unfold trimLeftB;rw [List.dropWhile_cons,ha];simp
theorem pre_pos1 {l:List UInt8} (h:hasPrefix l [32]=true):1≤l.length:=by
 cases l with
 | nil=>cases h
 | cons a r=>simp
theorem end_pos1 {l:List UInt8} (h:endB l=true):1≤l.length:=by
 cases l with
 | nil=>cases h
 | cons a r=>simp
theorem rcut_any (l:List UInt8) (hl:l.length≤281474976710656) (w:World) :
  Calls Tryz.prog 52 #[.string ⟨l.toArray⟩] w fun e w'=>e=.returned (.string ⟨(trimRightB l 32).toArray⟩)∧Below w.heap.size w w':=by
 generalize hR:trimRightB l 32=R;have B0:Hid (Below w.heap.size w w):=Below.refl _ _;go_enter Tryz.func52,Tryz.ntmps52
 go_wp2
 go_loopw [0] (fun s0 wx=>∃ m:List UInt8,s0=.string ⟨m.toArray⟩∧m.length≤281474976710656∧trimRightB m 32=R∧Below w.heap.size w wx) (fun v _=>Lib.strSize v)
 case atStart=>exact ⟨l,rfl,hl,hR,B0.out⟩
 case round=>
  clear hR hl l B0;obtain ⟨m,rfl,hm,hp,hb0⟩:=hrel;have HP:=lh hp;have B0:=lh hb0;clear hp hb0;have ms:=q0f m;go_wp2_with fail
  refine (rends_any m hm _).mono ?_;rintro xx w1 ⟨rfl,hb⟩;replace B0:=lh (q0a B0.out hb);clear hb
  cases he:endB m with
  | true=>
   have hp1:=end_pos1 he;rw [← trimR_end he] at HP;clear he;have hx:((m.length:Int) - 1)=((m.length - 1:Nat):Int):=(by omega);have hw1:IntKind.i64.wrap ((m.length:Int) - 1)=(m.length:Int) - 1:=IntWalk.i64_in _ (by omega);have hd0:decide ((0:Int)≤(m.length:Int) - 1)=true:=decide_eq_true (by omega);have hd1:decide ((m.length:Int) - 1≤(m.length:Int))=true:=decide_eq_true (by omega);have hn:((m.length:Int) - 1).toNat=m.length - 1:=(by omega);have EX:=lh (q0d m 0 (m.length - 1));rw [List.drop_zero] at EX;go_wp2_with fail
   go_roundw
   case rel=>exact ⟨m.take (m.length - 1),by first | rw [EX.out] | simp [EX.out],by rw [List.length_take]; omega,HP.out,B0.out⟩
   case measure=>first | (rw [EX.out]; simp [Lib.strSize,ByteArray.size]; omega) | (simp [Lib.strSize,ByteArray.size]; omega)
  | false=>
   rw [trimR_stop he] at HP;clear he;go_wp2_with fail
   go_ret
   rw [← HP.out];exact ⟨rfl,B0.out⟩
theorem rskip_any (l:List UInt8) (hl:l.length≤281474976710656) (w:World) :
  Calls Tryz.prog 106 #[.string ⟨l.toArray⟩] w fun e w'=>e=.returned (.string ⟨(trimLeftB l 32).toArray⟩)∧Below w.heap.size w w':=by
 generalize hR:trimLeftB l 32=R;have B0:Hid (Below w.heap.size w w):=Below.refl _ _;go_enter Tryz.func106,Tryz.ntmps106
 go_wp2
 go_loopw [0] (fun s0 wx=>∃ m:List UInt8,s0=.string ⟨m.toArray⟩∧m.length≤281474976710656∧trimLeftB m 32=R∧Below w.heap.size w wx) (fun v _=>Lib.strSize v)
 case atStart=>exact ⟨l,rfl,hl,hR,B0.out⟩
 case round=>
  clear hR hl l B0;obtain ⟨m,rfl,hm,hp,hb0⟩:=hrel;have HP:=lh hp;have B0:=lh hb0;clear hp hb0;have ms:=q0f m;go_wp2_with fail
  refine (q0i m [32] _).mono ?_;rintro xx w1 ⟨rfl,hb⟩;replace B0:=lh (q0a B0.out hb);clear hb
  cases he:hasPrefix m [32] with
  | true=>
   have hp1:=pre_pos1 he;rw [← trimL_go he] at HP;clear he;have hd1:decide ((1:Int)≤(m.length:Int))=true:=decide_eq_true (by omega);have hd2:decide (1≤m.length)=true:=decide_eq_true (by omega);have EX:=lh (q0d m 1 m.length);rw [List.take_length] at EX;go_wp2_with fail
   go_roundw
   case rel=>exact ⟨m.drop 1,by first | rw [EX.out] | simp [EX.out],by rw [List.length_drop]; omega,HP.out,B0.out⟩
   case measure=>first | (rw [EX.out]; simp [Lib.strSize,ByteArray.size]; omega) | (simp [Lib.strSize,ByteArray.size]; omega)
  | false=>
   rw [trimL_stop he] at HP;clear he;go_wp2_with fail
   go_ret
   rw [← HP.out];exact ⟨rfl,B0.out⟩
theorem take_len {p:UInt8→Bool} {l:List UInt8} {k:Nat} (hk:k≤l.length) (h1:(l.take k).all p=true) (h2:∀ h:k < l.length,p l[k]=false):(l.takeWhile p).length=k:=by
 have e:l.takeWhile p=l.take k:=by
  conv=>lhs; rw [← List.take_append_drop k l]
  rw [List.takeWhile_append_of_pos (List.all_eq_true.1 h1)];by_cases h:k < l.length
  ·rw [List.drop_eq_getElem_cons h,List.takeWhile_cons,h2 h]; simp
  ·rw [List.drop_eq_nil_of_le (by omega)]; simp
 rw [e,List.length_take];omega
def tch (c:UInt8):Bool:=!(c == 32) && !(c == 47)
theorem rrun_any (l:List UInt8) (hl:l.length≤281474976710656) (w:World) :
  Calls Tryz.prog 152 #[.string ⟨l.toArray⟩] w fun e w'=>e=.returned (.int .i64 (l.takeWhile dig).length)∧Below w.heap.size w w':=by
 have B0:Hid (Below w.heap.size w w):=Below.refl _ _;have TL:=lh (fun k hk h1 h2=>take_len (p:=dig) (l:=l) (k:=k) hk h1 h2);generalize (l.takeWhile dig).length=R at *;go_enter Tryz.func152,Tryz.ntmps152
 go_wp2
 go_loopw [3] (fun s3 wx=>∃ k:Nat,s3=.int .i64 k∧k≤l.length∧(l.take k).all dig=true∧Below w.heap.size w wx) (fun v _=>l.length - (RowKit.intOf v).toNat)
 case atStart=>exact ⟨0,rfl,Nat.zero_le _,rfl,B0.out⟩
 case round=>
  clear B0;obtain ⟨k,rfl,hk,ha,hb0⟩:=hrel;have HA:=lh ha;have B0:=lh hb0;clear ha hb0;by_cases hlt:k < l.length
  ·have tk:decide ((k:Int) < (l.length:Int))=true:=decide_eq_true (by omega);have IX:=idx_str l k hlt (k:Int) rfl;have tn:decide ((0:Int)≤(k:Int))=true:=decide_eq_true (by omega);have i2:IntKind.i64.wrap ((k:Int)+1)=(k:Int)+1:=IntWalk.i64_in _ (by omega);have SN:=lh (fun h2=>all_snoc hlt HA.out h2);have ST:=lh (fun (h2:dig l[k]=false)=>TL.out k hk HA.out (fun _=>h2));generalize l[k]=c at *
   obtain ⟨hp,c1,c2⟩ | ⟨hp,c1⟩ | ⟨hp,c1,c2⟩:(dig c=true∧decide ((48:Int)≤(c.toNat:Int))=true∧decide ((c.toNat:Int)≤57)=true)∨(dig c=false∧decide ((48:Int)≤(c.toNat:Int))=false)∨(dig c=false∧decide ((48:Int)≤(c.toNat:Int))=true∧decide ((c.toNat:Int)≤57)=false):=by
    unfold dig;have:=c.toNat_lt;by_cases x1:48≤c.toNat <;> by_cases x2:c.toNat≤57 <;> simp [x1,x2] <;> omega
   ·have SN2:=lh (SN.out hp);clear hp SN ST;go_wp2_with fail
    go_roundw
    case rel=>exact ⟨k+1,by go_num,by omega,SN2.out,B0.out⟩
    case measure=>simp [RowKit.intOf]; omega
   ·have ST2:=lh (ST.out hp);clear hp SN ST;go_wp2_with fail
    go_ret
    rw [ST2.out];exact ⟨rfl,B0.out⟩
   ·have ST2:=lh (ST.out hp);clear hp SN ST;go_wp2_with fail
    go_ret
    rw [ST2.out];exact ⟨rfl,B0.out⟩
  ·have tk:decide ((k:Int) < (l.length:Int))=false:=decide_eq_false (by omega);have ST2:=lh (TL.out k hk HA.out (fun h=>absurd h hlt));go_wp2_with fail
   go_ret
   rw [ST2.out];exact ⟨rfl,B0.out⟩
theorem rtoken_any (l:List UInt8) (hl:l.length≤281474976710656) (w:World) :
  Calls Tryz.prog 108 #[.string ⟨l.toArray⟩] w fun e w'=>e=.returned (.int .i64 (l.takeWhile tch).length)∧Below w.heap.size w w':=by
 have B0:Hid (Below w.heap.size w w):=Below.refl _ _;have TL:=lh (fun k hk h1 h2=>take_len (p:=tch) (l:=l) (k:=k) hk h1 h2);generalize (l.takeWhile tch).length=R at *;go_enter Tryz.func108,Tryz.ntmps108
 go_wp2
 go_loopw [3] (fun s3 wx=>∃ k:Nat,s3=.int .i64 k∧k≤l.length∧(l.take k).all tch=true∧Below w.heap.size w wx) (fun v _=>l.length - (RowKit.intOf v).toNat)
 case atStart=>exact ⟨0,rfl,Nat.zero_le _,rfl,B0.out⟩
 case round=>
  clear B0;obtain ⟨k,rfl,hk,ha,hb0⟩:=hrel;have HA:=lh ha;have B0:=lh hb0;clear ha hb0;by_cases hlt:k < l.length
  ·have tk:decide ((k:Int) < (l.length:Int))=true:=decide_eq_true (by omega);have IX:=idx_str l k hlt (k:Int) rfl;have tn:decide ((0:Int)≤(k:Int))=true:=decide_eq_true (by omega);have i2:IntKind.i64.wrap ((k:Int)+1)=(k:Int)+1:=IntWalk.i64_in _ (by omega);have SN:=lh (fun h2=>all_snoc hlt HA.out h2);have ST:=lh (fun (h2:tch l[k]=false)=>TL.out k hk HA.out (fun _=>h2));generalize l[k]=c at *
   obtain ⟨hp,c1,c2⟩ | ⟨hp,c1⟩ | ⟨hp,c1,c2⟩:(tch c=true∧((c.toNat:Int) != 32)=true∧((c.toNat:Int) != 47)=true)∨(tch c=false∧((c.toNat:Int) != 32)=false)∨(tch c=false∧((c.toNat:Int) != 32)=true∧((c.toNat:Int) != 47)=false):=by
    unfold tch;have:=c.toNat_lt;have u1:=u8_eq c 32 (by omega);have u2:=u8_eq c 47 (by omega);change (c == 32)=_ at u1
    change (c == 47)=_ at u2
    rw [u1,u2];by_cases x1:(c.toNat:Int)=32 <;> by_cases x2:(c.toNat:Int)=47 <;> simp [x1,x2] <;> omega
   ·have SN2:=lh (SN.out hp);clear hp SN ST;go_wp2_with fail
    go_roundw
    case rel=>exact ⟨k+1,by go_num,by omega,SN2.out,B0.out⟩
    case measure=>simp [RowKit.intOf]; omega
   ·have ST2:=lh (ST.out hp);clear hp SN ST;go_wp2_with fail
    go_ret
    rw [ST2.out];exact ⟨rfl,B0.out⟩
   ·have ST2:=lh (ST.out hp);clear hp SN ST;go_wp2_with fail
    go_ret
    rw [ST2.out];exact ⟨rfl,B0.out⟩
  ·have tk:decide ((k:Int) < (l.length:Int))=false:=decide_eq_false (by omega);have ST2:=lh (TL.out k hk HA.out (fun h=>absurd h hlt));go_wp2_with fail
   go_ret
   rw [ST2.out];exact ⟨rfl,B0.out⟩
end Go.Proofs.YtcpofeehpijbcaaGreatDoor
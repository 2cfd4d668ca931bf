import Derived.Test.YtcpofeehpijbcaaGreatDoorFr1
import Derived.Test.YtcpofeehpijbcaaGreatDoorRfM
set_option maxHeartbeats 4000000
set_option maxRecDepth 100000
namespace Go.Proofs.YtcpofeehpijbcaaGreatDoor
open Lib renaming hid → lh
open Go.RowKit Go.Lib Go.Shelf
attribute [local go_sem ↓] Go.wp_at_zero Go.wp_at_succ
theorem all_snoc {p:UInt8→Bool} {l:List UInt8} {k:Nat} (h:k < l.length) (h1:(l.take k).all p=true) (h2:p l[k]=true):(l.take (k+1)).all p=true:=by
 rw [all_take_succ h,h1,h2]; rfl
theorem all_end {p:UInt8→Bool} {l:List UInt8} {k:Nat} (h:¬ k < l.length) (h1:(l.take k).all p=true):l.all p=true:=by
 rwa [List.take_of_length_le (by omega)] at h1
theorem endB_ne {l:List UInt8} (h:0 < l.length):endB l=(l[l.length - 1]'(by omega) == 32):=by
 unfold endB;rw [List.getLast?_eq_getElem?,List.getElem?_eq_getElem (by omega)];rfl
theorem u8_eq (c:UInt8) (n:Nat) (hn:n < 256):(c == UInt8.ofNat n)=((c.toNat:Int) == (n:Int)):=by
 rw [Bool.eq_iff_iff,beq_iff_eq,beq_iff_eq,← UInt8.toNat_inj,UInt8.toNat_ofNat'];omega
theorem q0d (l:List UInt8) (a b:Nat):(ByteArray.mk l.toArray).extract a b=⟨((l.take b).drop a).toArray⟩:=by
 apply ByteArray.ext
 rw [ByteArray.data_extract];apply Array.toList_inj.1
 rw [Array.toList_extract];simp [List.extract_eq_take_drop,List.drop_take]
theorem q0f (l:List UInt8):(ByteArray.mk l.toArray).size=l.length:=by simp [ByteArray.size]
theorem rplain_any (l:List UInt8) (hl:l.length≤281474976710656) (w:World) :
  Calls Tryz.prog 50 #[.string ⟨l.toArray⟩] w fun e w'=>e=.returned (.bool (prt l))∧Below w.heap.size w w':=by
 have IX:=lh (fun i h W=>idx_str l i h i rfl W);go_enter Tryz.func50,Tryz.ntmps50
 go_wp2
 go_loopw [3] (fun s3 wz=>∃ i:Nat,i≤l.length∧s3=.int .i64 i∧(l.take i).all pch=true∧Below w.heap.size w wz) (fun v _=>l.length - (RowKit.intOf v).toNat)
 case atStart=>exact ⟨0,Nat.zero_le _,rfl,rfl,Below.refl _ _⟩
 case round=>
  obtain ⟨i,hi,rfl,ha,hb⟩:=hrel;have HA:=lh ha;have B0:=lh hb;clear ha hb;by_cases hlt:i < l.length
  ·have tk:decide ((i:Int) < (l.length:Int))=true:=decide_eq_true (by omega);have ix:=IX.out i hlt;have hp:pch l[i]=(decide (32≤l[i].toNat) && decide (l[i].toNat≤126)):=rfl;have AF:=lh (@all_false pch l i hlt);have AS:=lh (@all_snoc pch l i hlt HA.out);have tn:decide ((0:Int)≤(i:Int))=true:=decide_eq_true (by omega);generalize l[i]=b at *;generalize b.toNat=c at *;by_cases h1:32≤c
   ·have d1:decide ((c:Int) < 32)=false:=decide_eq_false (by omega);by_cases h2:c≤126
    ·have d2:decide ((126:Int) < (c:Int))=false:=decide_eq_false (by omega);have i2:IntKind.i64.wrap ((i:Int)+1)=(i:Int)+1:=IntWalk.i64_in _ (by omega);have hq:pch b=true:=(by rw [hp,decide_eq_true h1,decide_eq_true h2]; rfl);go_wp2
     go_roundw
     case rel=>exact ⟨i+1,by omega,by go_num,AS.out hq,B0.out⟩
     case measure=>simp [RowKit.intOf]; omega
    ·have d2:decide ((126:Int) < (c:Int))=true:=decide_eq_true (by omega);have hq:prt l=false:=AF.out (by rw [hp,decide_eq_false h2,Bool.and_false]);go_wp2
     go_ret
     exact ⟨by rw [hq]; rfl,B0.out⟩
   ·have d1:decide ((c:Int) < 32)=true:=decide_eq_true (by omega);have hq:prt l=false:=AF.out (by rw [hp,decide_eq_false h1,Bool.false_and]);go_wp2
    go_ret
    exact ⟨by rw [hq]; rfl,B0.out⟩
  ·have tk:decide ((i:Int) < (l.length:Int))=false:=decide_eq_false (by omega);have hq:prt l=true:=all_end hlt HA.out;go_wp2
   go_ret
   exact ⟨by rw [hq]; rfl,B0.out⟩
theorem rword_any (l:List UInt8) (hl:l.length≤281474976710656) (w:World) :
  Calls Tryz.prog 58 #[.string ⟨l.toArray⟩] w fun e w'=>e=.returned (.bool (wrdB l))∧Below w.heap.size w w':=by
 have IX:=lh (fun i h W=>idx_str l i h i rfl W);have WX:Hid (wrdB l=(l.all wch && (decide (1≤l.length) && decide (l.length≤8)))):=rfl;generalize wrdB l=R at *;go_enter Tryz.func58,Tryz.ntmps58
 go_wp2
 go_loopw [3] (fun s3 wz=>∃ i:Nat,i≤l.length∧s3=.int .i64 i∧(l.take i).all wch=true∧Below w.heap.size w wz) (fun v _=>l.length - (RowKit.intOf v).toNat)
 case atStart=>exact ⟨0,Nat.zero_le _,rfl,rfl,Below.refl _ _⟩
 case round=>
  obtain ⟨i,hi,rfl,ha,hb⟩:=hrel;have HA:=lh ha;have B0:=lh hb;clear ha hb;by_cases hlt:i < l.length
  ·have tk:decide ((i:Int) < (l.length:Int))=true:=decide_eq_true (by omega);have ix:=IX.out i hlt
   have hp:wch l[i]=((decide (65≤l[i].toNat) && decide (l[i].toNat≤90)) || (decide (48≤l[i].toNat) && decide (l[i].toNat≤57)) || ((l[i].toNat:Int) == 45) || ((l[i].toNat:Int) == 95)):=by
    unfold wch;rw [show (45:UInt8)=UInt8.ofNat 45 from rfl,show (95:UInt8)=UInt8.ofNat 95 from rfl,u8_eq _ 45 (by omega),u8_eq _ 95 (by omega)];rfl
   have AF:=lh (@all_false wch l i hlt);have AS:=lh (@all_snoc wch l i hlt HA.out);have tn:decide ((0:Int)≤(i:Int))=true:=decide_eq_true (by omega);generalize l[i]=b at *;generalize b.toNat=c at *;have HP:=lh hp;clear hp;have hcs:c < 45∨c=45∨(46≤c∧c≤47)∨(48≤c∧c≤57)∨(58≤c∧c≤64)∨(65≤c∧c≤90)∨(91≤c∧c≤94)∨c=95∨95 < c:=(by omega);rcases hcs with h | h | h | h | h | h | h | h | h
   ·have d65:decide ((65:Int)≤(c:Int))=false:=decide_eq_false (by omega);have d65':decide (65≤c)=false:=decide_eq_false (by omega);have d90:decide ((c:Int)≤90)=true:=decide_eq_true (by omega);have d90':decide (c≤90)=true:=decide_eq_true (by omega);have d48:decide ((48:Int)≤(c:Int))=false:=decide_eq_false (by omega);have d48':decide (48≤c)=false:=decide_eq_false (by omega);have d57:decide ((c:Int)≤57)=true:=decide_eq_true (by omega);have d57':decide (c≤57)=true:=decide_eq_true (by omega);have e45:((c:Int) == 45)=false:=beq_eq_false_iff_ne.2 (by omega);have e95:((c:Int) == 95)=false:=beq_eq_false_iff_ne.2 (by omega);have hq:R=false:=(by rw [WX.out,AF.out (by rw [HP.out,d65',d90',d48',d57',e45,e95]; rfl)]; rfl);clear h d65' d90' d48' d57';go_wp2
    go_ret
    exact ⟨by rw [hq]; rfl,B0.out⟩
   ·have d65:decide ((65:Int)≤(c:Int))=false:=decide_eq_false (by omega);have d65':decide (65≤c)=false:=decide_eq_false (by omega);have d90:decide ((c:Int)≤90)=true:=decide_eq_true (by omega);have d90':decide (c≤90)=true:=decide_eq_true (by omega);have d48:decide ((48:Int)≤(c:Int))=false:=decide_eq_false (by omega);have d48':decide (48≤c)=false:=decide_eq_false (by omega);have d57:decide ((c:Int)≤57)=true:=decide_eq_true (by omega);have d57':decide (c≤57)=true:=decide_eq_true (by omega);have e45:((c:Int) == 45)=true:=(by simp; omega);have e95:((c:Int) == 95)=false:=beq_eq_false_iff_ne.2 (by omega);have i2:IntKind.i64.wrap ((i:Int)+1)=(i:Int)+1:=IntWalk.i64_in _ (by omega);have hq:wch b=true:=(by rw [HP.out,d65',d90',d48',d57',e45,e95]; rfl);clear h d65' d90' d48' d57';go_wp2
    go_roundw
    case rel=>exact ⟨i+1,by omega,by go_num,AS.out hq,B0.out⟩
    case measure=>simp [RowKit.intOf]; omega
   ·have d65:decide ((65:Int)≤(c:Int))=false:=decide_eq_false (by omega);have d65':decide (65≤c)=false:=decide_eq_false (by omega);have d90:decide ((c:Int)≤90)=true:=decide_eq_true (by omega);have d90':decide (c≤90)=true:=decide_eq_true (by omega);have d48:decide ((48:Int)≤(c:Int))=false:=decide_eq_false (by omega);have d48':decide (48≤c)=false:=decide_eq_false (by omega);have d57:decide ((c:Int)≤57)=true:=decide_eq_true (by omega);have d57':decide (c≤57)=true:=decide_eq_true (by omega);have e45:((c:Int) == 45)=false:=beq_eq_false_iff_ne.2 (by omega);have e95:((c:Int) == 95)=false:=beq_eq_false_iff_ne.2 (by omega);have hq:R=false:=(by rw [WX.out,AF.out (by rw [HP.out,d65',d90',d48',d57',e45,e95]; rfl)]; rfl);clear h d65' d90' d48' d57';go_wp2
    go_ret
    exact ⟨by rw [hq]; rfl,B0.out⟩
   ·have d65:decide ((65:Int)≤(c:Int))=false:=decide_eq_false (by omega);have d65':decide (65≤c)=false:=decide_eq_false (by omega);have d90:decide ((c:Int)≤90)=true:=decide_eq_true (by omega);have d90':decide (c≤90)=true:=decide_eq_true (by omega);have d48:decide ((48:Int)≤(c:Int))=true:=decide_eq_true (by omega);have d48':decide (48≤c)=true:=decide_eq_true (by omega);have d57:decide ((c:Int)≤57)=true:=decide_eq_true (by omega);have d57':decide (c≤57)=true:=decide_eq_true (by omega);have e45:((c:Int) == 45)=false:=beq_eq_false_iff_ne.2 (by omega);have e95:((c:Int) == 95)=false:=beq_eq_false_iff_ne.2 (by omega);have i2:IntKind.i64.wrap ((i:Int)+1)=(i:Int)+1:=IntWalk.i64_in _ (by omega);have hq:wch b=true:=(by rw [HP.out,d65',d90',d48',d57',e45,e95]; rfl);clear h d65' d90' d48' d57';go_wp2
    go_roundw
    case rel=>exact ⟨i+1,by omega,by go_num,AS.out hq,B0.out⟩
    case measure=>simp [RowKit.intOf]; omega
   ·have d65:decide ((65:Int)≤(c:Int))=false:=decide_eq_false (by omega);have d65':decide (65≤c)=false:=decide_eq_false (by omega);have d90:decide ((c:Int)≤90)=true:=decide_eq_true (by omega);have d90':decide (c≤90)=true:=decide_eq_true (by omega);have d48:decide ((48:Int)≤(c:Int))=true:=decide_eq_true (by omega);have d48':decide (48≤c)=true:=decide_eq_true (by omega);have d57:decide ((c:Int)≤57)=false:=decide_eq_false (by omega);have d57':decide (c≤57)=false:=decide_eq_false (by omega);have e45:((c:Int) == 45)=false:=beq_eq_false_iff_ne.2 (by omega);have e95:((c:Int) == 95)=false:=beq_eq_false_iff_ne.2 (by omega);have hq:R=false:=(by rw [WX.out,AF.out (by rw [HP.out,d65',d90',d48',d57',e45,e95]; rfl)]; rfl);clear h d65' d90' d48' d57';go_wp2
    go_ret
    exact ⟨by rw [hq]; rfl,B0.out⟩
   ·have d65:decide ((65:Int)≤(c:Int))=true:=decide_eq_true (by omega);have d65':decide (65≤c)=true:=decide_eq_true (by omega);have d90:decide ((c:Int)≤90)=true:=decide_eq_true (by omega);have d90':decide (c≤90)=true:=decide_eq_true (by omega);have d48:decide ((48:Int)≤(c:Int))=true:=decide_eq_true (by omega);have d48':decide (48≤c)=true:=decide_eq_true (by omega);have d57:decide ((c:Int)≤57)=false:=decide_eq_false (by omega);have d57':decide (c≤57)=false:=decide_eq_false (by omega);have e45:((c:Int) == 45)=false:=beq_eq_false_iff_ne.2 (by omega);have e95:((c:Int) == 95)=false:=beq_eq_false_iff_ne.2 (by omega);have i2:IntKind.i64.wrap ((i:Int)+1)=(i:Int)+1:=IntWalk.i64_in _ (by omega);have hq:wch b=true:=(by rw [HP.out,d65',d90',d48',d57',e45,e95]; rfl);clear h d65' d90' d48' d57';go_wp2
    go_roundw
    case rel=>exact ⟨i+1,by omega,by go_num,AS.out hq,B0.out⟩
    case measure=>simp [RowKit.intOf]; omega
   ·have d65:decide ((65:Int)≤(c:Int))=true:=decide_eq_true (by omega);have d65':decide (65≤c)=true:=decide_eq_true (by omega);have d90:decide ((c:Int)≤90)=false:=decide_eq_false (by omega);have d90':decide (c≤90)=false:=decide_eq_false (by omega);have d48:decide ((48:Int)≤(c:Int))=true:=decide_eq_true (by omega);have d48':decide (48≤c)=true:=decide_eq_true (by omega);have d57:decide ((c:Int)≤57)=false:=decide_eq_false (by omega);have d57':decide (c≤57)=false:=decide_eq_false (by omega);have e45:((c:Int) == 45)=false:=beq_eq_false_iff_ne.2 (by omega);have e95:((c:Int) == 95)=false:=beq_eq_false_iff_ne.2 (by omega);have hq:R=false:=(by rw [WX.out,AF.out (by rw [HP.out,d65',d90',d48',d57',e45,e95]; rfl)]; rfl);clear h d65' d90' d48' d57';go_wp2
    go_ret
    exact ⟨by rw [hq]; rfl,B0.out⟩
   ·have d65:decide ((65:Int)≤(c:Int))=true:=decide_eq_true (by omega);have d65':decide (65≤c)=true:=decide_eq_true (by omega);have d90:decide ((c:Int)≤90)=false:=decide_eq_false (by omega);have d90':decide (c≤90)=false:=decide_eq_false (by omega);have d48:decide ((48:Int)≤(c:Int))=true:=decide_eq_true (by omega);have d48':decide (48≤c)=true:=decide_eq_true (by omega);have d57:decide ((c:Int)≤57)=false:=decide_eq_false (by omega);have d57':decide (c≤57)=false:=decide_eq_false (by omega);have e45:((c:Int) == 45)=false:=beq_eq_false_iff_ne.2 (by omega);have e95:((c:Int) == 95)=true:=(by simp; omega);have i2:IntKind.i64.wrap ((i:Int)+1)=(i:Int)+1:=IntWalk.i64_in _ (by omega);have hq:wch b=true:=(by rw [HP.out,d65',d90',d48',d57',e45,e95]; rfl);clear h d65' d90' d48' d57';go_wp2
    go_roundw
    case rel=>exact ⟨i+1,by omega,by go_num,AS.out hq,B0.out⟩
    case measure=>simp [RowKit.intOf]; omega
   ·have d65:decide ((65:Int)≤(c:Int))=true:=decide_eq_true (by omega);have d65':decide (65≤c)=true:=decide_eq_true (by omega);have d90:decide ((c:Int)≤90)=false:=decide_eq_false (by omega);have d90':decide (c≤90)=false:=decide_eq_false (by omega);have d48:decide ((48:Int)≤(c:Int))=true:=decide_eq_true (by omega);have d48':decide (48≤c)=true:=decide_eq_true (by omega);have d57:decide ((c:Int)≤57)=false:=decide_eq_false (by omega);have d57':decide (c≤57)=false:=decide_eq_false (by omega);have e45:((c:Int) == 45)=false:=beq_eq_false_iff_ne.2 (by omega);have e95:((c:Int) == 95)=false:=beq_eq_false_iff_ne.2 (by omega);have hq:R=false:=(by rw [WX.out,AF.out (by rw [HP.out,d65',d90',d48',d57',e45,e95]; rfl)]; rfl);clear h d65' d90' d48' d57';go_wp2
    go_ret
    exact ⟨by rw [hq]; rfl,B0.out⟩
  ·have tk:decide ((i:Int) < (l.length:Int))=false:=decide_eq_false (by omega);have hq:l.all wch=true:=all_end hlt HA.out
   have WY:R=(decide ((1:Int)≤(l.length:Int)) && decide ((l.length:Int)≤8)):=by
    rw [WX.out,hq,Bool.true_and];congr 1 <;> (rw [decide_eq_decide]; omega)
   clear WX hq;by_cases g1:1≤l.length
   ·have g:decide ((1:Int)≤(l.length:Int))=true:=decide_eq_true (by omega);go_wp2
    go_ret
    exact ⟨by rw [WY,g]; simp,B0.out⟩
   ·have g:decide ((1:Int)≤(l.length:Int))=false:=decide_eq_false (by omega);go_wp2
    go_ret
    exact ⟨by rw [WY,g]; simp,B0.out⟩
theorem rremark_any (l:List UInt8) (w:World) :
  Calls Tryz.prog 56 #[.string ⟨l.toArray⟩] w fun e w'=>e=.returned (.bool (remB l))∧Below w.heap.size w w':=by
 have h0:(l == [])=decide (l=[]):=(by rw [Bool.eq_iff_iff]; simp);go_enter Tryz.func56,Tryz.ntmps56
 go_wp2
 all_goals go_ret
 ·exact ⟨by simp [remB, *],Below.refl _ _⟩
 ·exact ⟨by simp [remB,sCOM, *],Below.refl _ _⟩
 ·exact ⟨by simp [remB,sCOM,sHIS, *],Below.refl _ _⟩
theorem rends_any (l:List UInt8) (hl:l.length≤281474976710656) (w:World) :
  Calls Tryz.prog 55 #[.string ⟨l.toArray⟩] w fun e w'=>e=.returned (.bool (endB l))∧Below w.heap.size w w':=by
 by_cases h0:0 < l.length
 ·have d0:decide ((0:Int) < (l.length:Int))=true:=decide_eq_true (by omega);have hx:((l.length:Int) - 1)=((l.length - 1:Nat):Int):=(by omega);have IX:=idx_str l (l.length - 1) (by omega) ((l.length:Int) - 1) hx;have hw1:IntKind.i64.wrap ((l.length:Int) - 1)=(l.length:Int) - 1:=IntWalk.i64_in _ (by omega);have hd0:decide ((0:Int)≤(l.length:Int) - 1)=true:=decide_eq_true (by omega);have he:=endB_ne h0;rw [show (32:UInt8)=UInt8.ofNat 32 from rfl,u8_eq _ 32 (by omega)] at he;have HE:=lh he;clear he;go_enter Tryz.func55,Tryz.ntmps55
  go_wp2
  go_ret
  exact ⟨by rw [HE.out]; rfl,Below.refl _ _⟩
 ·have d0:decide ((0:Int) < (l.length:Int))=false:=decide_eq_false (by omega);have e:l=[]:=List.eq_nil_of_length_eq_zero (by omega);subst e;go_enter Tryz.func55,Tryz.ntmps55
  go_wp2
  go_ret
  exact ⟨rfl,Below.refl _ _⟩
theorem pre_take (l p:List UInt8):hasPrefix l p=(l.take p.length == p):=by
 unfold hasPrefix;rw [Bool.eq_iff_iff,List.isPrefixOf_iff_prefix,beq_iff_eq,List.prefix_iff_eq_take];exact eq_comm
theorem rext_list (l:List UInt8) (a b:Nat):((ByteArray.mk l.toArray).extract a b).toList=(l.take b).drop a:=by
 rw [q0d,ByteArray.toList_mk]
theorem pre_short (l p:List UInt8) (h:l.length < p.length):hasPrefix l p=false:=by
 unfold hasPrefix;rw [Bool.eq_false_iff];intro hh;have:=(List.isPrefixOf_iff_prefix.1 hh).length_le;omega
theorem q0i (l p:List UInt8) (w:World) :
  Calls Tryz.prog 57 #[.string ⟨l.toArray⟩,.string ⟨p.toArray⟩] w fun e w'=>e=.returned (.bool (hasPrefix l p))∧Below w.heap.size w w':=by
 by_cases h0:p.length≤l.length
 ·have d0:decide ((p.length:Int)≤(l.length:Int))=true:=decide_eq_true (by omega);have HP:=lh (pre_take l p);have EX:Hid (((ByteArray.mk l.toArray).extract 0 p.length).toList=l.take p.length):=(by unfold Hid; rw [rext_list,List.drop_zero]);go_enter Tryz.func57,Tryz.ntmps57
  go_wp2
  go_ret
  exact ⟨by rw [HP.out,← EX.out]; rfl,Below.refl _ _⟩
 ·have d0:decide ((p.length:Int)≤(l.length:Int))=false:=decide_eq_false (by omega);have HP:=lh (pre_short l p (by omega));go_enter Tryz.func57,Tryz.ntmps57
  go_wp2
  go_ret
  exact ⟨by rw [HP.out]; rfl,Below.refl _ _⟩
theorem rspaces_any (n:Int) (hn:n≤100000) (w:World) :
  Calls Tryz.prog 156 #[.int .i64 n] w fun e w'=>e=.returned (.string ⟨(List.replicate n.toNat (32:UInt8)).toArray⟩)∧Below w.heap.size w w':=by
 have AP:=lh (fun k=>q0e (List.replicate k (32:UInt8)) [32]);go_enter Tryz.func156,Tryz.ntmps156
 go_wp2
 go_loopw [3] (fun s3 wz=>∃ k:Nat,k≤n.toNat∧s3=.string ⟨(List.replicate k (32:UInt8)).toArray⟩∧Below w.heap.size w wz) (fun v _=>n.toNat - Lib.strSize v)
 case atStart=>exact ⟨0,Nat.zero_le _,rfl,Below.refl _ _⟩
 case round=>
  obtain ⟨k,hk,rfl,hb⟩:=hrel;have B0:=lh hb;clear hb;have hlen:(List.replicate k (32:UInt8)).length=k:=List.length_replicate;have ap:=AP.out k;have hs:List.replicate k (32:UInt8) ++ [32]=List.replicate (k+1) 32:=(by rw [List.replicate_succ']);rw [hs] at ap;have hl2:(List.replicate (k+1) (32:UInt8)).length=k+1:=List.length_replicate;clear hs;by_cases hlt:k < n.toNat
  ·have tk:decide ((k:Int) < n)=true:=decide_eq_true (by omega);have AQ:=lh ap;clear ap;generalize hU1:List.replicate (k+1) (32:UInt8)=U1 at *;have HU1:=lh hU1;clear hU1;generalize List.replicate k (32:UInt8)=U at *;go_wp2
   rw [AQ.out];go_roundw
   case rel=>exact ⟨k+1,by omega,by rw [HU1.out],B0.out⟩
   case measure=>rw [Lib.strSize_string,Lib.strSize_string,q0f,q0f]; omega
  ·have tk:decide ((k:Int) < n)=false:=decide_eq_false (by omega);have HE:Hid (List.replicate k (32:UInt8)=List.replicate n.toNat 32):=(by rw [show k=n.toNat by omega]; exact rfl);clear ap hl2;generalize List.replicate k (32:UInt8)=U at *;go_wp2
   go_ret
   exact ⟨by rw [HE.out]; rfl,B0.out⟩
theorem rbehind_any (l:List UInt8) (n:Nat) (hl:l.length≤281474976710656) (hn:n≤1000) (w:World) :
  Calls Tryz.prog 154 #[.string ⟨l.toArray⟩,.int .i64 (n:Int)] w fun e w'=>e=.returned (.string ⟨(padR l n).toArray⟩)∧Below w.heap.size w w':=by
 have SP:Hid (∀ W,Calls Tryz.prog 156 #[.int .i64 ((n:Int) - (l.length:Int))] W fun e w'=>e=.returned (.string ⟨(List.replicate (n - l.length) (32:UInt8)).toArray⟩)∧Below W.heap.size W w'):=fun W=>by
  have h:=rspaces_any ((n:Int) - (l.length:Int)) (by omega) W;rw [show ((n:Int) - (l.length:Int)).toNat=n - l.length by omega] at h;exact h
 have PD:Hid (ByteArray.mk l.toArray ++ ByteArray.mk (List.replicate (n - l.length) (32:UInt8)).toArray=ByteArray.mk (padR l n).toArray):=q0e _ _;have hln:(List.replicate (n - l.length) (32:UInt8)).length≤1000:=(by rw [List.length_replicate]; omega);generalize List.replicate (n - l.length) (32:UInt8)=U at *;have i1:IntKind.i64.wrap ((n:Int) - (l.length:Int))=(n:Int) - (l.length:Int):=IntWalk.i64_in _ (by omega);go_enter Tryz.func154,Tryz.ntmps154
 go_wp2_with fail
 refine (SP.out _).mono ?_;rintro e w1 ⟨rfl,hb⟩;have B0:=lh hb;clear hb;go_wp2
 go_ret
 exact ⟨by rw [← PD.out]; rfl,B0.out⟩
theorem esc_take (l:List UInt8) (i:Nat) (h:i < l.length):esc (l.take (i+1))=esc (l.take i) ++ (if l[i]=39 then [39,39] else [l[i]]):=by
 rw [← List.take_append_getElem h,esc_snoc]
theorem one_ext (l:List UInt8) (i:Nat) (h:i < l.length):(ByteArray.mk l.toArray).extract i (i+1)=⟨[l[i]].toArray⟩:=by
 rw [q0d,← List.take_append_getElem h,List.drop_left' (by rw [List.length_take]; omega)]
theorem rdoubled_any (l:List UInt8) (hl:l.length≤100000) (w:World) :
  Calls Tryz.prog 155 #[.string ⟨l.toArray⟩] w fun e w'=>e=.returned (.string ⟨(esc l).toArray⟩)∧Below w.heap.size w w':=by
 have IX:=lh (fun i h W=>idx_str l i h i rfl W);have ET:=lh (esc_take l);have OE:=lh (one_ext l);go_enter Tryz.func155,Tryz.ntmps155
 go_wp2
 go_loopw [3,4] (fun s3 s4 wz=>∃ i:Nat,i≤l.length∧s3=.string ⟨(esc (l.take i)).toArray⟩∧s4=.int .i64 i∧Below w.heap.size w wz) (fun _ v _=>l.length - (RowKit.intOf v).toNat)
 case atStart=>exact ⟨0,Nat.zero_le _,rfl,rfl,Below.refl _ _⟩
 case round=>
  obtain ⟨i,hi,rfl,rfl,hb⟩:=hrel;have B0:=lh hb;clear hb;by_cases hlt:i < l.length
  ·have tk:decide ((i:Int) < (l.length:Int))=true:=decide_eq_true (by omega);have ix:=IX.out i hlt;have et:=ET.out i hlt;have oe:=OE.out i hlt;have hel:=(esc_len (l.take i)).2;rw [List.length_take] at hel;have tn:decide ((0:Int)≤(i:Int))=true:=decide_eq_true (by omega);have i2:IntKind.i64.wrap ((i:Int)+1)=(i:Int)+1:=IntWalk.i64_in _ (by omega);have ht:((i:Int)+1).toNat=i+1:=by omega
   have h9:(l[i]=39) ↔ ((l[i].toNat:Int) == 39)=true:=by
    have h:=u8_eq l[i] 39 (by omega);rw [show UInt8.ofNat 39=39 from rfl] at h;rw [← beq_iff_eq (a:=l[i]),h];exact Iff.rfl
   have AP:=lh (fun a b=>q0e a b);generalize l[i]=b at *;generalize hE1:esc (l.take (i+1))=E1 at *;have HE1:=lh hE1;clear hE1;generalize esc (l.take i)=E at *;generalize hc:b.toNat=c at *;by_cases h39:b=39
   ·have d39:=h9.1 h39;rw [if_pos h39] at et;have ET2:=lh et;clear et h9;have hl1:(E ++ [39]).length=E.length+1:=(by simp);have a1:ByteArray.mk E.toArray ++ ByteArray.mk #[39]=ByteArray.mk (E ++ [39]).toArray:=q0e E [39];go_wp2
    go_roundw
    case rel=>exact ⟨i+1,by omega,by rw [HE1.out,ET2.out]; exact congrArg Value.string ((AP.out (E ++ [39]) [39]).trans (by simp)),by go_num,B0.out⟩
    case measure=>simp [RowKit.intOf]; omega
   ·have d39:((c:Int) == 39)=false:=by cases hh:((c:Int) == 39) with | false=>rfl | true=>exact absurd (h9.2 hh) h39
    rw [if_neg h39] at et;have ET2:=lh et;clear et h9;go_wp2
    go_roundw
    case rel=>exact ⟨i+1,by omega,by rw [HE1.out,ET2.out]; exact congrArg Value.string (AP.out E [b]),by go_num,B0.out⟩
    case measure=>simp [RowKit.intOf]; omega
  ·have tk:decide ((i:Int) < (l.length:Int))=false:=decide_eq_false (by omega);have HE:Hid (esc (l.take i)=esc l):=(by rw [List.take_of_length_le (by omega)]; exact rfl);generalize esc (l.take i)=E at *;go_wp2
   go_ret
   exact ⟨by rw [← HE.out]; rfl,B0.out⟩
end Go.Proofs.YtcpofeehpijbcaaGreatDoor
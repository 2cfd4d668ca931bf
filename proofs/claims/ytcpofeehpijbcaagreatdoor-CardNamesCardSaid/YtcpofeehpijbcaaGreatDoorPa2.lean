import Derived.Test.YtcpofeehpijbcaaGreatDoorPa1
import Derived.Shelf.Strings.SlTrimAscii
set_option maxHeartbeats 4000000
set_option maxRecDepth 100000
namespace Go.Proofs.YtcpofeehpijbcaaGreatDoor
open Lib renaming hid → lh
open Go.RowKit Go.Lib Go.Shelf
attribute [local go_sem ↓] Go.wp_at_zero Go.wp_at_succ
def errV (w:World) (g:Nat):Prop:=∃ ev,w.cell? ⟨g,0,none⟩=some ev∧(ev=.nilIface∨∃ t p,ev=.iface t p)
theorem errV.keep {w w':World} {g:Nat} (h:errV w g) (hb:Below w.heap.size w w'):errV w' g:=by
 obtain ⟨ev,h1,h2⟩:=h;exact ⟨ev,q0b hb h1,h2⟩
structure EnvP (w:World):Prop where
 env:Env w
 es:errV w 8
 er:errV w 9
theorem EnvP.keep {w w':World} (h:EnvP w) (hb:Below w.heap.size w w'):EnvP w':=⟨h.env.keep hb,h.es.keep hb,h.er.keep hb⟩
theorem trimPM_any (l:List UInt8) (w:World):Calls Tryz.prog 147 #[.string ⟨l.toArray⟩,.string ⟨#[43,45]⟩] w fun e w'=>e=.returned (.string ⟨(trimLeftS l [43,45]).toArray⟩)∧Below w.heap.size w w':=
 Any.strings_TrimLeft_laid Tryz.lays161 (by kernel_rfl) ⟨l.toArray⟩ ⟨#[43,45]⟩ w (by decide) (ascii_of_all (by decide))
def pIntR (l:List UInt8) (e:Ending):Prop:=match parseIntB 64 l with
 | .ok v=>e=.returned (.tuple #[.int .i64 v,.nilIface])
 | _=>∃ v t N,e=.returned (.tuple #[.int .i64 v,.iface t (.pointer (some ⟨N,0,none⟩))])
theorem parseInt_any (l:List UInt8) (hl:l.length≤1000000) (w:World) (hE:EnvP w):Calls Tryz.prog 215 #[.string ⟨l.toArray⟩,.int .i64 10,.int .i64 64] w fun e w'=>pIntR l e∧Below w.heap.size w w':=by
 have hs:(ByteArray.mk l.toArray).size=l.length:=(by simp [ByteArray.size]);obtain ⟨ev1,h1,h2⟩:=hE.es;obtain ⟨ev2,h3,h4⟩:=hE.er;unfold pIntR;rcases hp:parseIntB 64 l with v | _ | _
 ·refine (Tryz.strconv_ParseInt_10_at64_ok ⟨l.toArray⟩ (by rw [hs]; omega) v hp w).mono ?_;rintro e w' ⟨rfl,rfl | ⟨t,rfl⟩⟩
  ·exact ⟨rfl,Below.refl _ _⟩
  ·exact ⟨rfl,bytesWorld_below _ _ _⟩
 ·refine (Any.strconv_ParseInt_10_at64_syntax Tryz.laysC174 ⟨l.toArray⟩ (by rw [hs]; omega) hp ev1 w h1 h2).mono ?_;rintro e w' ⟨N,rfl,-,-,hb⟩;exact ⟨⟨_,_,N,rfl⟩,hb⟩
 ·refine (Tryz.strconv_ParseInt_10_at64_range ⟨l.toArray⟩ (by rw [hs]; omega) hp ev2 w h3 h4).mono ?_;rintro e w' ⟨N,rfl,-,-,hb⟩;exact ⟨⟨_,_,N,rfl⟩,hb⟩
theorem whole_any (l:List UInt8) (hl:l.length≤1000000) (w:World) (hE:EnvP w) :
  Calls Tryz.prog 188 #[.string ⟨l.toArray⟩] w fun e w'=>MayO (wholeS l) (fun c=>.agg #[.string ⟨c.k.toArray⟩,.int .u8 c.kd,.bool c.y,.int .i64 c.n,.int .i64 c.e,.string ⟨c.t.toArray⟩,.string ⟨c.o.toArray⟩]) e∧Below w.heap.size w w':=by
 have WX:Hid (wholeS l=if (trimLeftS l [43,45]).length≤20 then (match parseIntB 64 l with | .ok v=>some ⟨[],3,false,v,0,[],[]⟩ | _=>none) else none):=rfl;have TL:=lh (fun W=>trimPM_any l W);have PI:=lh (fun W (h:Below w.heap.size w W)=>parseInt_any l hl W (hE.keep h));have hul:=drop_while_len ([43,45].contains ·) l;change (trimLeftS l [43,45]).length≤l.length at hul
 generalize trimLeftS l [43,45]=u at *;generalize wholeS l=R at *;clear hE;go_enter Tryz.func188,Tryz.ntmps188
 go_wp2_with fail
 have K0:Hid (BlkV (w.alloc (.cells #[.string ⟨#[]⟩,.int .u8 0,.bool false,.int .i64 0,.int .i64 0,.string ⟨#[]⟩,.string ⟨#[]⟩] 31)) w.heap.size 31 #[.string ⟨#[]⟩,.int .u8 0,.bool false,.int .i64 0,.int .i64 0,.string ⟨#[]⟩,.string ⟨#[]⟩]):=BlkV.fresh rfl _ _;have B0:Hid (Below w.heap.size w (w.alloc (.cells #[.string ⟨#[]⟩,.int .u8 0,.bool false,.int .i64 0,.int .i64 0,.string ⟨#[]⟩,.string ⟨#[]⟩] 31))):=blw1 _ _;refine (TL.out _).mono ?_;rintro xx w1 ⟨rfl,hb⟩;replace B0:=lh (q0a B0.out hb);replace K0:=lh (K0.out.keep hb);clear hb TL;by_cases h20:u.length≤20
 ·have d1:decide ((u.length:Int)≤20)=true:=decide_eq_true (by omega);have d1':decide (u.length≤20)=true:=decide_eq_true h20;rw [if_pos h20] at WX;clear h20;go_wp2_with fail
  refine (need_ok _).mono ?_;rintro xx w2 ⟨rfl,hb⟩;replace B0:=lh (q0a B0.out hb);replace K0:=lh (K0.out.keep hb);clear hb;go_wp2_with fail
  refine (PI.out _ B0.out).mono ?_;rintro xx w3 ⟨hr,hb⟩;replace B0:=lh (q0a B0.out hb);replace K0:=lh (K0.out.keep hb);clear hb PI;unfold pIntR at hr;generalize parseIntB 64 l=pr at *;rcases pr with v | _ | _
  ·subst hr;replace WX:Hid (R=some ⟨[],3,false,v,0,[],[]⟩):=WX;go_wp2_with fail
   refine (need_ok _).mono ?_;rintro xx w4 ⟨rfl,hb⟩;replace B0:=lh (q0a B0.out hb);replace K0:=lh (K0.out.keep hb);clear hb;have cf0:=K0.out.at_ 0 rfl;have cf1:=K0.out.at_ 1 rfl;have cf2:=K0.out.at_ 2 rfl;have cf3:=K0.out.at_ 3 rfl;have cf4:=K0.out.at_ 4 rfl;have cf5:=K0.out.at_ 5 rfl;have cf6:=K0.out.at_ 6 rfl;have f0:=K0.out.frozen 0;have f1:=K0.out.frozen 1;have f2:=K0.out.frozen 2;have f3:=K0.out.frozen 3;have f4:=K0.out.frozen 4;have f5:=K0.out.frozen 5;have f6:=K0.out.frozen 6;have PN:=lh (((((((K0.out.put 0 (.string ⟨#[]⟩) rfl).put 1 (.int .u8 3) rfl).put 2 (.bool false) rfl).put 3 (.int .i64 v) rfl).put 4 (.int .i64 0) rfl).put 5 (.string ⟨#[]⟩) rfl).put 6 (.string ⟨#[]⟩) rfl);have PB:=lh (((((((B0.out.setCell (p:=⟨w.heap.size,0,none⟩) (Nat.le_refl _) (.string ⟨#[]⟩)).setCell (p:=⟨w.heap.size,1,none⟩) (Nat.le_refl _) (.int .u8 3)).setCell (p:=⟨w.heap.size,2,none⟩) (Nat.le_refl _) (.bool false)).setCell (p:=⟨w.heap.size,3,none⟩) (Nat.le_refl _) (.int .i64 v)).setCell (p:=⟨w.heap.size,4,none⟩) (Nat.le_refl _) (.int .i64 0)).setCell (p:=⟨w.heap.size,5,none⟩) (Nat.le_refl _) (.string ⟨#[]⟩)).setCell (p:=⟨w.heap.size,6,none⟩) (Nat.le_refl _) (.string ⟨#[]⟩));have r0:=PN.out.at_ 0 rfl;have r1:=PN.out.at_ 1 rfl;have r2:=PN.out.at_ 2 rfl;have r3:=PN.out.at_ 3 rfl;have r4:=PN.out.at_ 4 rfl;have r5:=PN.out.at_ 5 rfl;have r6:=PN.out.at_ 6 rfl;go_wp2
   exact bodyPost_ret (v:=.agg #[.string ⟨#[]⟩,.int .u8 3,.bool false,.int .i64 v,.int .i64 0,.string ⟨#[]⟩,.string ⟨#[]⟩]) (by simp [results,Tryz.results188,go_sem,r0,r1,r2,r3,r4,r5,r6]) rfl ⟨by rw [WX.out]; rfl,PB.out⟩
  ·obtain ⟨v,ty,N,rfl⟩:=hr;replace WX:Hid (R=none):=WX;go_wp2_with fail
   refine (q0m _).mono ?_;rintro xx w4 ⟨rfl,hb⟩;have hR:=WX.out;subst hR;go_wp2_with fail
   exact ⟨rfl,rfl,q0a B0.out hb⟩
  ·obtain ⟨v,ty,N,rfl⟩:=hr;replace WX:Hid (R=none):=WX;go_wp2_with fail
   refine (q0m _).mono ?_;rintro xx w4 ⟨rfl,hb⟩;have hR:=WX.out;subst hR;go_wp2_with fail
   exact ⟨rfl,rfl,q0a B0.out hb⟩
 ·have d1:decide ((u.length:Int)≤20)=false:=decide_eq_false (by omega);have d1':decide (u.length≤20)=false:=decide_eq_false h20;rw [if_neg h20] at WX;go_wp2_with fail
  refine (q0m _).mono ?_;rintro xx w2 ⟨rfl,hb⟩;have hR:=WX.out;subst hR;go_wp2_with fail
  exact ⟨rfl,rfl,q0a B0.out hb⟩
theorem cut_any (l:List UInt8) (hl:l.length≤1000000) (c:UInt8) (w:World) (hE:Env w):Calls Tryz.prog 184 #[.string ⟨l.toArray⟩,.string ⟨#[c]⟩] w fun e w'=>e=.returned (.tuple #[.string ⟨(cut l [c]).1.toArray⟩,.string ⟨(cut l [c]).2.1.toArray⟩,.bool (cut l [c]).2.2])∧Below w.heap.size w w':=by
 have hs:(ByteArray.mk l.toArray).size=l.length:=(by simp [ByteArray.size]);obtain ⟨m,hm⟩:=hE.ml;refine (Tryz.strings_Cut ⟨l.toArray⟩ ⟨#[c]⟩ m w (by rw [hs]; omega) hm).mono ?_;rintro e w' ⟨rfl,n,rfl⟩;exact ⟨rfl,below_drewN (Below.refl _ _) n⟩
theorem prefQ_any (l:List UInt8) (w:World):Calls Tryz.prog 89 #[.string ⟨l.toArray⟩,.string ⟨#[39]⟩] w fun e w'=>e=.returned (.bool (hasPrefix l [39]))∧Below w.heap.size w w':=by
 refine (Tryz.strings_HasPrefix ⟨l.toArray⟩ ⟨#[39]⟩ w).mono ?_;rintro e w' ⟨rfl,rfl⟩;exact ⟨rfl,Below.refl _ _⟩
theorem cut_parts {s:List UInt8} {x y:List UInt8} (h:cut s [39]=(x,y,true)):x.length+y.length+1=s.length:=by
 have h1:=cut_len (s:=s) (sep:=[39]) (by rw [h]);rw [h] at h1;exact h1
theorem pref_pos {y:List UInt8} (h:hasPrefix y [39]=true):0 < y.length:=by
 cases y with
 | nil=>cases h
 | cons a y=>simp
theorem qutN_s {f:Nat} {acc s:List UInt8} : qutN (f+1) acc s=if (cut s [39]).2.2 then (if hasPrefix (cut s [39]).2.1 [39] then qutN f (acc ++ (cut s [39]).1 ++ [39]) ((cut s [39]).2.1.drop 1) else some (acc ++ (cut s [39]).1,(cut s [39]).2.1)) else none:=rfl
theorem quoted_any (l:List UInt8) (h1:0 < l.length) (hl:l.length≤1000000) (w:World) (hE:Env w) :
  Calls Tryz.prog 148 #[.string ⟨l.toArray⟩] w fun e w'=>MayO (quoS l) (fun r=>.tuple #[.string ⟨r.1.toArray⟩,.string ⟨r.2.toArray⟩]) e∧Below w.heap.size w w':=by
 have QX:Hid (quoS l=qutN l.length [] (l.drop 1)):=rfl;have EN:=lh hE;have hsz:(ByteArray.mk l.toArray).size=l.length:=(by simp [ByteArray.size]);have hx:(ByteArray.mk l.toArray).extract 1 l.length=⟨(l.drop 1).toArray⟩:=(by rw [q1d,List.take_length]);have hdl:(l.drop 1).length+1=l.length:=(by rw [List.length_drop]; omega);generalize l.drop 1=s0 at *;generalize quoS l=R at *;clear hE;go_enter Tryz.func148,Tryz.ntmps148
 go_wp2_with fail
 have KB0:Hid (Lib.IsBuilder 114 5 w.heap.size w.heap.size (Lib.byteCells []) (w.alloc (.cells #[.pointer none,.slice none 0 0] 114))):=Lib.fresh_isBuilder _ _ w;have B0:Hid (Below w.heap.size w (w.alloc (.cells #[.pointer none,.slice none 0 0] 114))):=blw1 _ _;go_loopw [0] (fun sv wz=>∃ (f:Nat) (acc s:List UInt8),sv=.string ⟨s.toArray⟩∧qutN f acc s=R∧s.length+1≤f∧acc.length+s.length≤l.length∧Lib.IsBuilder 114 5 w.heap.size w.heap.size (Lib.byteCells acc) wz∧Below w.heap.size w wz) (fun v _=>Lib.strSize v)
 case atStart=>exact ⟨l.length,[],s0,rfl,QX.out.symm,by omega,by simp; omega,KB0.out,B0.out⟩
 case round=>
  clear KB0 B0 QX;obtain ⟨f,acc,s,rfl,hq,hf,hal,hk,hb⟩:=hrel;obtain ⟨f,rfl⟩:∃ m,f=m+1:=⟨f - 1,by omega⟩;rw [qutN_s] at hq;have K0:=lh hk;have B0:=lh hb;have HQ:=lh hq;clear hk hb hq;have CU:=lh (fun W (hW:Below w.heap.size w W)=>cut_any s (by omega) 39 W (EN.out.keep hW));obtain ⟨⟨x,y,ok⟩,hc⟩:∃ c,cut s [39]=c:=⟨_,rfl⟩;rw [hc] at HQ CU;have CP:=lh (fun h:ok=true=>cut_parts (s:=s) (x:=x) (y:=y) (by rw [hc,h]));clear hc;dsimp only at HQ CU;go_wp2_with fail
  refine (CU.out _ B0.out).mono ?_;rintro xx w1 ⟨rfl,hb⟩;replace B0:=lh (q0a B0.out hb);replace K0:=lh (IsBuilder.below_ K0.out hb);clear hb CU
  cases ok with
  | false=>
   rw [if_neg (by decide)] at HQ;go_wp2_with fail
   refine (q0m _).mono ?_;rintro xx w2 ⟨rfl,hb⟩;have hR:=HQ.out;subst hR;go_wp2_with fail
   exact ⟨rfl,rfl,q0a B0.out hb⟩
  | true=>
   rw [if_pos rfl] at HQ;have hlen:=CP.out rfl;clear CP;go_wp2_with fail
   refine (need_ok _).mono ?_;rintro xx w2 ⟨rfl,hb⟩;replace B0:=lh (q0a B0.out hb);replace K0:=lh (IsBuilder.below_ K0.out hb);clear hb;go_wp2_with fail
   refine (bW_any _ _ acc x _ K0.out (by omega) B0.out.size).mono ?_;rintro xx w3 ⟨rfl,hk,hb⟩;replace B0:=lh (B0.out.trans hb);replace K0:=lh hk;clear hb hk;go_wp2_with fail
   refine (prefQ_any y _).mono ?_;rintro xx w4 ⟨rfl,hb⟩;replace B0:=lh (q0a B0.out hb);replace K0:=lh (IsBuilder.below_ K0.out hb);clear hb;have PP:=lh (@pref_pos y);generalize hasPrefix y [39]=hp at *
   cases hp with
   | false=>
    rw [if_neg (by decide)] at HQ;go_wp2_with fail
    refine (Tryz.Builder_String_any w.heap.size w.heap.size (acc ++ x) _ K0.out B0.out.size).mono ?_;rintro xx w5 ⟨rfl,hb⟩;replace B0:=lh (B0.out.trans hb);clear hb;go_wp2
    exact bodyPost_ret (v:=.tuple #[.string ⟨(acc ++ x).toArray⟩,.string ⟨y.toArray⟩]) (by simp [results,Tryz.results148,go_sem]) rfl ⟨by rw [← HQ.out],B0.out⟩
   | true=>
    rw [if_pos rfl] at HQ;have hy:=PP.out rfl;clear PP;go_wp2_with fail
    refine (bW_any _ _ (acc ++ x) [39] _ K0.out (by simp; omega) B0.out.size).mono ?_;rintro xx w5 ⟨rfl,hk,hb⟩;replace B0:=lh (B0.out.trans hb);replace K0:=lh hk;clear hb hk;have ysz:(ByteArray.mk y.toArray).size=y.length:=(by simp [ByteArray.size]);have yx:(ByteArray.mk y.toArray).extract 1 y.length=⟨(y.drop 1).toArray⟩:=(by rw [q1d,List.take_length]);have t1:decide ((1:Int)≤(y.length:Int))=true:=decide_eq_true (by omega);have t1':decide (1≤y.length)=true:=decide_eq_true hy;go_wp2
    go_roundw
    case rel=>exact ⟨f,acc ++ x ++ [39],y.drop 1,by rw [List.drop_one],HQ.out,by rw [List.length_drop]; omega,by simp; omega,K0.out,B0.out⟩
    case measure=>simp [Lib.strSize,ByteArray.size]; omega
end Go.Proofs.YtcpofeehpijbcaaGreatDoor
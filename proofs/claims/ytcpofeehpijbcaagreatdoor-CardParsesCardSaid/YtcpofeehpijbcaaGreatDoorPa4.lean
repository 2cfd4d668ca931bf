import Derived.Test.YtcpofeehpijbcaaGreatDoorPa3
set_option maxHeartbeats 8000000
set_option maxRecDepth 100000
namespace Go.Proofs.YtcpofeehpijbcaaGreatDoor
open Lib renaming hid → lh
open Go.RowKit Go.Lib Go.Shelf
attribute [local go_sem ↓] Go.wp_at_zero Go.wp_at_succ
def quoW:Option (List UInt8 × List UInt8)→Option (CD × List UInt8 × List UInt8)
 | none=>none
 | some r=>some (⟨[],5,false,0,0,trimRightB r.1 32,[]⟩,r.1,r.2)
def tokW (rs:List UInt8):Option CD→Option (CD × List UInt8 × List UInt8)
 | none=>none
 | some c=>some (c,[],rs)
def valP (u:List UInt8):Option (CD × List UInt8 × List UInt8):=if hasPrefix u [39] then quoW (quoS u) else tokW (u.drop (tokL u)) (tokS (u.take (tokL u)))
def noteP (key:List UInt8) (m:CD × List UInt8 × List UInt8):Option (CD × List UInt8):=match noteS key m.1 m.2.2 with | none=>none | some c=>some (c,m.2.1)
def valQ (key:List UInt8):Option (CD × List UInt8 × List UInt8)→Option (CD × List UInt8)
 | none=>none
 | some m=>noteP key m
theorem valS_eq (key s:List UInt8):valS key s=valQ key (valP (trimLeftB s 32)):=by
 unfold valS valP;generalize trimLeftB s 32=u;split
 ·unfold valT
  cases quoS u with
  | none=>rfl
  | some r=>rfl
 ·unfold valO
  cases tokS (u.take (tokL u)) with
  | none=>rfl
  | some r=>rfl
theorem trimLsp_any (l:List UInt8) (w:World):Calls Tryz.prog 147 #[.string ⟨l.toArray⟩,.string ⟨#[32]⟩] w fun e w'=>e=.returned (.string ⟨(trimLeftB l 32).toArray⟩)∧Below w.heap.size w w':=by
 refine (Tryz.strings_TrimLeft_one ⟨l.toArray⟩ 32 (by decide) w).mono ?_;rintro e w' ⟨rfl,rfl⟩;exact ⟨rfl,Below.refl _ _⟩
theorem trimRsp_any (l:List UInt8) (hl:l.length≤1000000) (w:World):Calls Tryz.prog 104 #[.string ⟨l.toArray⟩,.string ⟨#[32]⟩] w fun e w'=>e=.returned (.string ⟨(trimRightB l 32).toArray⟩)∧Below w.heap.size w w':=by
 refine (Tryz.strings_TrimRight_one ⟨l.toArray⟩ 32 (by decide) w (by rw [show (ByteArray.mk l.toArray).size=l.length by simp [ByteArray.size]]; omega)).mono ?_;rintro e w' ⟨rfl,rfl⟩;exact ⟨rfl,Below.refl _ _⟩
theorem trimSl_any (l:List UInt8) (w:World):Calls Tryz.prog 151 #[.string ⟨l.toArray⟩,.string ⟨#[47]⟩] w fun e w'=>e=.returned (.string ⟨(trimPrefix l [47]).toArray⟩)∧Below w.heap.size w w':=by
 refine (Tryz.strings_TrimPrefix ⟨l.toArray⟩ ⟨#[47]⟩ w).mono ?_;rintro e w' ⟨rfl,rfl⟩;exact ⟨rfl,Below.refl _ _⟩
theorem idxA_bd:∀ u:List UInt8,0≤indexAny (u ++ [32]) [32,47]∧indexAny (u ++ [32]) [32,47]≤u.length
 | []=>by decide
 | b :: l=>by
  have ih:=idxA_bd l;rw [List.cons_append];unfold indexAny;split
  ·exact ⟨Int.le_refl _,by simp; omega⟩
  ·rw [if_neg (by simp; omega)];simp only [List.length_cons];omega
theorem tok_any (u:List UInt8) (hl:u.length≤1000000) (ha:∀ b∈u,b.toNat < 128) (w:World):Calls Tryz.prog 149 #[.string ⟨(u ++ [32]).toArray⟩,.string ⟨#[32,47]⟩] w fun e w'=>e=.returned (.int .i64 (tokL u))∧Below w.heap.size w w':=by
 have hs:(ByteArray.mk (u ++ [32]).toArray).size=u.length+1:=by simp [ByteArray.size]
 have h:=Tryz.strings_IndexAny_laid ⟨(u ++ [32]).toArray⟩ ⟨#[32,47]⟩ w (by rw [hs]; omega) (by decide) (fun j b hb=>by
  rcases List.mem_append.1 (List.mem_of_getElem? hb) with h | h
  ·exact ha b h
  ·rw [List.mem_singleton.1 h]; decide) (ascii_of_all (by decide))
 have e:((tokL u:Nat):Int)=indexAny (u ++ [32]) [32,47]:=by
  have:=(idxA_bd u).1;unfold tokL;omega
 rw [e];exact h
theorem tok_le (u:List UInt8):tokL u≤u.length:=by
 have:=idxA_bd u;unfold tokL;omega
theorem prefQ_pos {u:List UInt8} (h:hasPrefix u [39]=true):0 < u.length:=pref_pos h
theorem value_any (key s:List UInt8) (hl:s.length≤1000000) (ha:∀ b∈s,b.toNat < 128) (w:World) (hE:EnvP w) :
  Calls Tryz.prog 105 #[.string ⟨key.toArray⟩,.string ⟨s.toArray⟩] w fun e w'=>MayO (valS key s) (fun m=>.tuple #[.agg #[.string ⟨m.1.k.toArray⟩,.int .u8 m.1.kd,.bool m.1.y,.int .i64 m.1.n,.int .i64 m.1.e,.string ⟨m.1.t.toArray⟩,.string ⟨m.1.o.toArray⟩],.string ⟨m.2.toArray⟩]) e∧Below w.heap.size w w':=by
 have VX:Hid (valS key s=valQ key (valP (trimLeftB s 32))):=valS_eq key s;have TL:=lh (fun W=>trimLsp_any s W);have ul:=trimL_len s 32;have ua:Hid (∀ b∈trimLeftB s 32,b.toNat < 128):=fun b hb=>ha b ((List.dropWhile_sublist _).subset hb);have EN:=lh hE;generalize valS key s=R at *;generalize trimLeftB s 32=u at *;clear hE ha;go_enter Tryz.func105,Tryz.ntmps105
 go_wp2_with fail
 have K0:Hid (BlkV (w.alloc (.cells #[.string ⟨#[]⟩,.int .u8 0,.bool false,.int .i64 0,.int .i64 0,.string ⟨#[]⟩,.string ⟨#[]⟩] 31)) w.heap.size 31 #[.string ⟨#[]⟩,.int .u8 0,.bool false,.int .i64 0,.int .i64 0,.string ⟨#[]⟩,.string ⟨#[]⟩]):=BlkV.fresh rfl _ _;have B0:Hid (Below w.heap.size w (w.alloc (.cells #[.string ⟨#[]⟩,.int .u8 0,.bool false,.int .i64 0,.int .i64 0,.string ⟨#[]⟩,.string ⟨#[]⟩] 31))):=blw1 _ _;refine (TL.out _).mono ?_;rintro xx w1 ⟨rfl,hb⟩;replace B0:=lh (q0a B0.out hb);replace K0:=lh (K0.out.keep hb);clear hb;clear TL;go_wp2_with fail
 refine (prefQ_any u _).mono ?_;rintro xx w2 ⟨rfl,hb⟩;replace B0:=lh (q0a B0.out hb);replace K0:=lh (K0.out.keep hb);clear hb;go_upto_if 11 with fail
 obtain ⟨hp,hhp⟩:∃ hp,hasPrefix u [39]=hp:=⟨_,rfl⟩;rw [hhp];go_cut [1,5,6,7] from 12 to 40 (fun s1 s5 _ _ wx=>∃ (c:CD) (raw r:List UInt8),valP u=some (c,raw,r)∧s1=.string ⟨r.toArray⟩∧s5=.string ⟨raw.toArray⟩∧r.length≤u.length∧BlkV wx w.heap.size 31 #[.string ⟨c.k.toArray⟩,.int .u8 c.kd,.bool c.y,.int .i64 c.n,.int .i64 c.e,.string ⟨c.t.toArray⟩,.string ⟨c.o.toArray⟩]∧Below w.heap.size w wx)
 case first=>
  cases hp with
  | true=>
   have pu:=prefQ_pos hhp;have QU:=lh (fun W (h:Below w.heap.size w W)=>quoted_any u pu (by omega) W (EN.out.env.keep h));obtain ⟨q,hq⟩:∃ q,quoS u=q:=⟨_,rfl⟩;have VP:valP u=quoW q:=(by unfold valP; rw [if_pos hhp,hq]);have HP:=lh VP;rw [hq] at QU;have QL:=lh (fun r (h:quoS u=some r)=>quoS_len h);have HQ:=lh hq;clear hhp hq VP;go_wp2_with fail
   refine (QU.out _ B0.out).mono ?_;rintro xx w3 ⟨hr,hb⟩;replace B0:=lh (q0a B0.out hb);replace K0:=lh (K0.out.keep hb);clear hb;clear QU
   cases q with
   | none=>
    subst hr;have hR:R=none:=(by rw [VX.out,HP.out]; rfl);subst hR;go_wp2_with fail
    exact ⟨rfl,rfl,B0.out⟩
   | some r=>
    subst hr;obtain ⟨raw,rest⟩:=r;have ql:=QL.out _ HQ.out;dsimp only at ql;clear QL HQ;go_wp2_with fail
    refine (trimRsp_any raw (by omega) _).mono ?_;rintro xx w4 ⟨rfl,hb⟩;replace B0:=lh (q0a B0.out hb);replace K0:=lh (K0.out.keep hb);clear hb;have cf0:=K0.out.at_ 0 rfl;have cf1:=K0.out.at_ 1 rfl;have cf2:=K0.out.at_ 2 rfl;have cf3:=K0.out.at_ 3 rfl;have cf4:=K0.out.at_ 4 rfl;have cf5:=K0.out.at_ 5 rfl;have cf6:=K0.out.at_ 6 rfl;have f0:=K0.out.frozen 0;have f1:=K0.out.frozen 1;have f2:=K0.out.frozen 2;have f3:=K0.out.frozen 3;have f4:=K0.out.frozen 4;have f5:=K0.out.frozen 5;have f6:=K0.out.frozen 6;have PN:=lh (K0.out.put7 (.string ⟨#[]⟩) (.int .u8 5) (.bool false) (.int .i64 0) (.int .i64 0) (.string ⟨(trimRightB raw 32).toArray⟩) (.string ⟨#[]⟩));have PB:=lh (q0c B0.out (Nat.le_refl _) (.string ⟨#[]⟩) (.int .u8 5) (.bool false) (.int .i64 0) (.int .i64 0) (.string ⟨(trimRightB raw 32).toArray⟩) (.string ⟨#[]⟩));go_wp2_with fail
    go_meet
    exact ⟨⟨[],5,false,0,0,trimRightB raw 32,[]⟩,raw,rest,HP.out,rfl,rfl,by omega,PN.out,PB.out⟩
  | false=>
   have TK:=lh (fun W=>tok_any u (by omega) ua.out W);have tl:=tok_le u;have VP:valP u=tokW (u.drop (tokL u)) (tokS (u.take (tokL u))):=(by unfold valP; rw [if_neg (by rw [hhp]; decide)]);generalize tokL u=n at *;have HP:=lh VP;clear hhp VP;have usz:(ByteArray.mk u.toArray).size=u.length:=(by simp [ByteArray.size]);have ap:=q0e u [32];have ul2:u.length≤1000000:=(by omega);go_wp2_with fail
   refine (TK.out _).mono ?_;rintro xx w3 ⟨rfl,hb⟩;replace B0:=lh (q0a B0.out hb);replace K0:=lh (K0.out.keep hb);clear hb;clear TK ap;have t1:decide ((n:Int)≤(u.length:Int))=true:=decide_eq_true (by omega);have t1':decide (n≤u.length)=true:=decide_eq_true tl;have t2:decide ((0:Int)≤(n:Int))=true:=decide_eq_true (by omega);have xa:(ByteArray.mk u.toArray).extract 0 n=⟨(u.take n).toArray⟩:=(by rw [q0d,List.drop_zero]);have xb:(ByteArray.mk u.toArray).extract n u.length=⟨(u.drop n).toArray⟩:=(by rw [q0d,List.take_length]);have vl:(u.take n).length≤1000000:=(by rw [List.length_take]; omega);have va:Hid (∀ b∈u.take n,b.toNat < 128):=fun b hb=>ua.out b (List.mem_of_mem_take hb);have dl:(u.drop n).length≤u.length:=(by rw [List.length_drop]; omega);generalize u.take n=v at *;generalize u.drop n=rs at *;by_cases v0:v=[]
   ·subst v0;have cf1:=K0.out.at_ 1 rfl;have f1:=K0.out.frozen 1;go_wp2_with fail
    go_meet
    exact ⟨cd0 6,[],rs,HP.out,rfl,rfl,by omega,K0.out.put 1 _ rfl,B0.out.setCell (p:=⟨w.heap.size,1,none⟩) (Nat.le_refl _) _⟩
   ·by_cases v1:v=[84]
    ·subst v1;have cf0:=K0.out.at_ 0 rfl;have cf1:=K0.out.at_ 1 rfl;have cf2:=K0.out.at_ 2 rfl;have cf3:=K0.out.at_ 3 rfl;have cf4:=K0.out.at_ 4 rfl;have cf5:=K0.out.at_ 5 rfl;have cf6:=K0.out.at_ 6 rfl;have f0:=K0.out.frozen 0;have f1:=K0.out.frozen 1;have f2:=K0.out.frozen 2;have f3:=K0.out.frozen 3;have f4:=K0.out.frozen 4;have f5:=K0.out.frozen 5;have f6:=K0.out.frozen 6;have PN:=lh (K0.out.put7 (.string ⟨#[]⟩) (.int .u8 2) (.bool true) (.int .i64 0) (.int .i64 0) (.string ⟨#[]⟩) (.string ⟨#[]⟩));have PB:=lh (q0c B0.out (Nat.le_refl _) (.string ⟨#[]⟩) (.int .u8 2) (.bool true) (.int .i64 0) (.int .i64 0) (.string ⟨#[]⟩) (.string ⟨#[]⟩));go_wp2_with fail
     go_meet
     exact ⟨⟨[],2,true,0,0,[],[]⟩,[],rs,HP.out,rfl,rfl,by omega,PN.out,PB.out⟩
    ·by_cases v2:v=[70]
     ·subst v2;have cf0:=K0.out.at_ 0 rfl;have cf1:=K0.out.at_ 1 rfl;have cf2:=K0.out.at_ 2 rfl;have cf3:=K0.out.at_ 3 rfl;have cf4:=K0.out.at_ 4 rfl;have cf5:=K0.out.at_ 5 rfl;have cf6:=K0.out.at_ 6 rfl;have f0:=K0.out.frozen 0;have f1:=K0.out.frozen 1;have f2:=K0.out.frozen 2;have f3:=K0.out.frozen 3;have f4:=K0.out.frozen 4;have f5:=K0.out.frozen 5;have f6:=K0.out.frozen 6;have PN:=lh (K0.out.put7 (.string ⟨#[]⟩) (.int .u8 2) (.bool false) (.int .i64 0) (.int .i64 0) (.string ⟨#[]⟩) (.string ⟨#[]⟩));have PB:=lh (q0c B0.out (Nat.le_refl _) (.string ⟨#[]⟩) (.int .u8 2) (.bool false) (.int .i64 0) (.int .i64 0) (.string ⟨#[]⟩) (.string ⟨#[]⟩));go_wp2_with fail
      go_meet
      exact ⟨⟨[],2,false,0,0,[],[]⟩,[],rs,HP.out,rfl,rfl,by omega,PN.out,PB.out⟩
     ·have g0:v.isEmpty=false:=(by cases v; exact absurd rfl v0; rfl);have g1:(v == [])=false:=beq_eq_false_iff_ne.2 v0;have g2:(v == [84])=false:=beq_eq_false_iff_ne.2 v1;have g3:(v == [70])=false:=beq_eq_false_iff_ne.2 v2;have TS:tokS v=nmbS v:=(by unfold tokS; rw [if_neg v0,if_neg (by rintro (h | h); exact v1 h; exact v2 h)]);have HQ:Hid (valP u=tokW rs (nmbS v)):=(by unfold Hid; rw [HP.out,TS]);have NU:=lh (fun W (h:Below w.heap.size w W)=>number_any v vl va.out W (EN.out.keep h));clear HP TS v0 v1 v2 va;go_wp2_with fail
      refine (NU.out _ B0.out).mono ?_;rintro xx w4 ⟨hr,hb⟩;replace B0:=lh (q0a B0.out hb);replace K0:=lh (K0.out.keep hb);clear hb;clear NU;generalize nmbS v=q at *
      cases q with
      | none=>
       subst hr;have hR:R=none:=(by rw [VX.out,HQ.out]; rfl);subst hR;go_wp2_with fail
       exact ⟨rfl,rfl,B0.out⟩
      | some c=>
       subst hr;obtain ⟨k,kd,y,nn,e,tx,o⟩:=c;dsimp only;have cf0:=K0.out.at_ 0 rfl;have cf1:=K0.out.at_ 1 rfl;have cf2:=K0.out.at_ 2 rfl;have cf3:=K0.out.at_ 3 rfl;have cf4:=K0.out.at_ 4 rfl;have cf5:=K0.out.at_ 5 rfl;have cf6:=K0.out.at_ 6 rfl;have f0:=K0.out.frozen 0;have f1:=K0.out.frozen 1;have f2:=K0.out.frozen 2;have f3:=K0.out.frozen 3;have f4:=K0.out.frozen 4;have f5:=K0.out.frozen 5;have f6:=K0.out.frozen 6;have PN:=lh (K0.out.put7 (.string ⟨k.toArray⟩) (.int .u8 kd) (.bool y) (.int .i64 nn) (.int .i64 e) (.string ⟨tx.toArray⟩) (.string ⟨o.toArray⟩));have PB:=lh (q0c B0.out (Nat.le_refl _) (.string ⟨k.toArray⟩) (.int .u8 kd) (.bool y) (.int .i64 nn) (.int .i64 e) (.string ⟨tx.toArray⟩) (.string ⟨o.toArray⟩));go_wp2_with fail
       go_meet
       exact ⟨⟨k,kd,y,nn,e,tx,o⟩,[],rs,HQ.out,rfl,rfl,by omega,PN.out,PB.out⟩
 case rest=>
  clear K0 B0;obtain ⟨c,raw,r,hv,rfl,rfl,hrl,hk0,hb⟩:=hcut;have K0:=lh hk0;have B0:=lh hb;have NX:Hid (R=noteP key (c,raw,r)):=(by unfold Hid; rw [VX.out,hv]; rfl);clear hk0 hb hv VX;have ZX:Hid (noteS key c r=if trimLeftB r 32=[]∨(trimLeftB r 32).head? = some 47 then some ⟨key,c.kd,c.y,c.n,c.e,c.t,trimB (trimPrefix (trimLeftB r 32) [47]) 32⟩ else none):=rfl;have TL:=lh (fun W=>trimLsp_any r W);have sl:=trimL_len r 32;generalize trimLeftB r 32=s3 at *;go_wp2_with fail
  refine (TL.out _).mono ?_;rintro xx w3 ⟨rfl,hb⟩;replace B0:=lh (q0a B0.out hb);replace K0:=lh (K0.out.keep hb);clear hb;clear TL;obtain ⟨k,kd,y,n,e,tx,o⟩:=c;dsimp only at ZX;have pl:=trimP_len s3 [47];have TP:=lh (fun W=>trimSl_any s3 W);generalize hpx:trimPrefix s3 [47]=px at *;have tbl:=trimB_len px 32;have TB:=lh (fun W=>trim_any' px (by omega) W);generalize trimB px 32=nt at *
  cases s3 with
  | nil=>
   rw [if_pos (.inl rfl)] at ZX;have hR:Hid (R=some (⟨key,kd,y,n,e,tx,nt⟩,raw)):=(by unfold Hid; rw [NX.out]; unfold noteP; dsimp only; rw [ZX.out]);clear ZX NX;go_wp2_with fail
   refine (need_ok _).mono ?_;rintro xx w4 ⟨rfl,hb⟩;replace B0:=lh (q0a B0.out hb);replace K0:=lh (K0.out.keep hb);clear hb;go_wp2_with fail
   refine (TP.out _).mono ?_;rintro xx w5 ⟨rfl,hb⟩;replace B0:=lh (q0a B0.out hb);replace K0:=lh (K0.out.keep hb);clear hb;clear TP;go_wp2_with fail
   refine (TB.out _).mono ?_;rintro xx w6 ⟨rfl,hb⟩;replace B0:=lh (q0a B0.out hb);replace K0:=lh (K0.out.keep hb);clear hb;clear TB;have a0:=K0.out.at_ 0 rfl;have b0:=K0.out.frozen 0;have K1:Hid (BlkV (w6.setCell ⟨w.heap.size,0,none⟩ (.string ⟨key.toArray⟩)) w.heap.size 31 #[.string ⟨key.toArray⟩,.int .u8 kd,.bool y,.int .i64 n,.int .i64 e,.string ⟨tx.toArray⟩,.string ⟨o.toArray⟩]):=K0.out.put 0 _ rfl;have a6:=K1.out.at_ 6 rfl;have b6:=K1.out.frozen 6;have K2:Hid (BlkV ((w6.setCell ⟨w.heap.size,0,none⟩ (.string ⟨key.toArray⟩)).setCell ⟨w.heap.size,6,none⟩ (.string ⟨nt.toArray⟩)) w.heap.size 31 #[.string ⟨key.toArray⟩,.int .u8 kd,.bool y,.int .i64 n,.int .i64 e,.string ⟨tx.toArray⟩,.string ⟨nt.toArray⟩]):=K1.out.put 6 _ rfl;have B2:Hid (Below w.heap.size w ((w6.setCell ⟨w.heap.size,0,none⟩ (.string ⟨key.toArray⟩)).setCell ⟨w.heap.size,6,none⟩ (.string ⟨nt.toArray⟩))):=(B0.out.setCell (p:=⟨w.heap.size,0,none⟩) (Nat.le_refl _) _).setCell (p:=⟨w.heap.size,6,none⟩) (Nat.le_refl _) _;clear K0 B0;go_upto_region 18 with fail
   generalize ((w6.setCell ⟨w.heap.size,0,none⟩ (.string ⟨key.toArray⟩)).setCell ⟨w.heap.size,6,none⟩ (.string ⟨nt.toArray⟩))=w7 at *;clear a0 b0 K1 a6 b6;have cf0:=K2.out.at_ 0 rfl;have cf1:=K2.out.at_ 1 rfl;have cf2:=K2.out.at_ 2 rfl;have cf3:=K2.out.at_ 3 rfl;have cf4:=K2.out.at_ 4 rfl;have cf5:=K2.out.at_ 5 rfl;have cf6:=K2.out.at_ 6 rfl;have f0:=K2.out.frozen 0;have f1:=K2.out.frozen 1;have f2:=K2.out.frozen 2;have f3:=K2.out.frozen 3;have f4:=K2.out.frozen 4;have f5:=K2.out.frozen 5;have f6:=K2.out.frozen 6;have PN:=lh (K2.out.put7 (.string ⟨key.toArray⟩) (.int .u8 kd) (.bool y) (.int .i64 n) (.int .i64 e) (.string ⟨tx.toArray⟩) (.string ⟨nt.toArray⟩));have PB:=lh (q0c B2.out (Nat.le_refl _) (.string ⟨key.toArray⟩) (.int .u8 kd) (.bool y) (.int .i64 n) (.int .i64 e) (.string ⟨tx.toArray⟩) (.string ⟨nt.toArray⟩));go_wp2
   have r0:=PN.out.at_ 0 rfl;have r1:=PN.out.at_ 1 rfl;have r2:=PN.out.at_ 2 rfl;have r3:=PN.out.at_ 3 rfl;have r4:=PN.out.at_ 4 rfl;have r5:=PN.out.at_ 5 rfl;have r6:=PN.out.at_ 6 rfl;exact bodyPost_ret (v:=.tuple #[.agg #[.string ⟨key.toArray⟩,.int .u8 kd,.bool y,.int .i64 n,.int .i64 e,.string ⟨tx.toArray⟩,.string ⟨nt.toArray⟩],.string ⟨raw.toArray⟩]) (by simp [results,Tryz.results105,go_sem,r0,r1,r2,r3,r4,r5,r6]) rfl ⟨by rw [hR.out],PB.out⟩
  | cons x l=>
   have IX:=fun W=>idx_str (x :: l) 0 (by simp) 0 rfl W;change ∀ W,(Instr.index 9 (.string ⟨(x :: l).toArray⟩) (.int .i64 0)).run Tryz.prog W=.ok (.int .u8 x.toNat) W at IX
   have IX2:=lh IX;clear IX;have xsz:(ByteArray.mk (x :: l).toArray).size=(x :: l).length:=(by simp [ByteArray.size]);have hlp:0 < (x :: l).length:=(by simp);have e0:((x :: l) == [])=false:=rfl;have e1:(x :: l).isEmpty=false:=rfl;by_cases hx:x=47
   ·have d1:((x.toNat:Int) == 47)=true:=(by rw [hx]; rfl);rw [if_pos (.inr (by rw [hx]; rfl))] at ZX;have ix:=IX2.out;clear IX2 hpx hx;generalize (x :: l)=s3 at *;generalize x.toNat=xn at *;have hR:Hid (R=some (⟨key,kd,y,n,e,tx,nt⟩,raw)):=(by unfold Hid; rw [NX.out]; unfold noteP; dsimp only; rw [ZX.out]);clear ZX NX;go_wp2_with fail
    refine (need_ok _).mono ?_;rintro xx w4 ⟨rfl,hb⟩;replace B0:=lh (q0a B0.out hb);replace K0:=lh (K0.out.keep hb);clear hb;go_wp2_with fail
    refine (TP.out _).mono ?_;rintro xx w5 ⟨rfl,hb⟩;replace B0:=lh (q0a B0.out hb);replace K0:=lh (K0.out.keep hb);clear hb;clear TP;go_wp2_with fail
    refine (TB.out _).mono ?_;rintro xx w6 ⟨rfl,hb⟩;replace B0:=lh (q0a B0.out hb);replace K0:=lh (K0.out.keep hb);clear hb;clear TB;have a0:=K0.out.at_ 0 rfl;have b0:=K0.out.frozen 0;have K1:Hid (BlkV (w6.setCell ⟨w.heap.size,0,none⟩ (.string ⟨key.toArray⟩)) w.heap.size 31 #[.string ⟨key.toArray⟩,.int .u8 kd,.bool y,.int .i64 n,.int .i64 e,.string ⟨tx.toArray⟩,.string ⟨o.toArray⟩]):=K0.out.put 0 _ rfl;have a6:=K1.out.at_ 6 rfl;have b6:=K1.out.frozen 6;have K2:Hid (BlkV ((w6.setCell ⟨w.heap.size,0,none⟩ (.string ⟨key.toArray⟩)).setCell ⟨w.heap.size,6,none⟩ (.string ⟨nt.toArray⟩)) w.heap.size 31 #[.string ⟨key.toArray⟩,.int .u8 kd,.bool y,.int .i64 n,.int .i64 e,.string ⟨tx.toArray⟩,.string ⟨nt.toArray⟩]):=K1.out.put 6 _ rfl;have B2:Hid (Below w.heap.size w ((w6.setCell ⟨w.heap.size,0,none⟩ (.string ⟨key.toArray⟩)).setCell ⟨w.heap.size,6,none⟩ (.string ⟨nt.toArray⟩))):=(B0.out.setCell (p:=⟨w.heap.size,0,none⟩) (Nat.le_refl _) _).setCell (p:=⟨w.heap.size,6,none⟩) (Nat.le_refl _) _;clear K0 B0;go_upto_region 18 with fail
    generalize ((w6.setCell ⟨w.heap.size,0,none⟩ (.string ⟨key.toArray⟩)).setCell ⟨w.heap.size,6,none⟩ (.string ⟨nt.toArray⟩))=w7 at *;clear a0 b0 K1 a6 b6;have cf0:=K2.out.at_ 0 rfl;have cf1:=K2.out.at_ 1 rfl;have cf2:=K2.out.at_ 2 rfl;have cf3:=K2.out.at_ 3 rfl;have cf4:=K2.out.at_ 4 rfl;have cf5:=K2.out.at_ 5 rfl;have cf6:=K2.out.at_ 6 rfl;have f0:=K2.out.frozen 0;have f1:=K2.out.frozen 1;have f2:=K2.out.frozen 2;have f3:=K2.out.frozen 3;have f4:=K2.out.frozen 4;have f5:=K2.out.frozen 5;have f6:=K2.out.frozen 6;have PN:=lh (K2.out.put7 (.string ⟨key.toArray⟩) (.int .u8 kd) (.bool y) (.int .i64 n) (.int .i64 e) (.string ⟨tx.toArray⟩) (.string ⟨nt.toArray⟩));have PB:=lh (q0c B2.out (Nat.le_refl _) (.string ⟨key.toArray⟩) (.int .u8 kd) (.bool y) (.int .i64 n) (.int .i64 e) (.string ⟨tx.toArray⟩) (.string ⟨nt.toArray⟩));go_wp2
    have r0:=PN.out.at_ 0 rfl;have r1:=PN.out.at_ 1 rfl;have r2:=PN.out.at_ 2 rfl;have r3:=PN.out.at_ 3 rfl;have r4:=PN.out.at_ 4 rfl;have r5:=PN.out.at_ 5 rfl;have r6:=PN.out.at_ 6 rfl;exact bodyPost_ret (v:=.tuple #[.agg #[.string ⟨key.toArray⟩,.int .u8 kd,.bool y,.int .i64 n,.int .i64 e,.string ⟨tx.toArray⟩,.string ⟨nt.toArray⟩],.string ⟨raw.toArray⟩]) (by simp [results,Tryz.results105,go_sem,r0,r1,r2,r3,r4,r5,r6]) rfl ⟨by rw [hR.out],PB.out⟩
   ·have d1:((x.toNat:Int) == 47)=false:=(by rw [beq_eq_false_iff_ne]; intro h; exact hx (by rw [← UInt8.toNat_inj]; show x.toNat=47; omega));rw [if_neg (by rintro (h | h); cases h; exact hx (by simpa using h))] at ZX;have hR:R=none:=(by rw [NX.out]; unfold noteP; dsimp only; rw [ZX.out]);subst hR;have ix:=IX2.out;clear IX2 hpx hx ZX NX TP TB;generalize (x :: l)=s3 at *;generalize x.toNat=xn at *;go_wp2_with fail
    refine (q0h _).mono ?_;rintro xx w4 ⟨rfl,hb⟩;go_wp2_with fail
    exact ⟨rfl,rfl,q0a B0.out hb⟩
end Go.Proofs.YtcpofeehpijbcaaGreatDoor
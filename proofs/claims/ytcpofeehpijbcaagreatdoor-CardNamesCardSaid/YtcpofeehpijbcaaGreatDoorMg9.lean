import Derived.Test.YtcpofeehpijbcaaGreatDoorMg8
import Derived.Shelf.Strings.BuilderK
import Derived.Shelf.Strings.BuilderF
import Derived.Lib.OthersKept
set_option maxHeartbeats 16000000
set_option maxRecDepth 100000
namespace Go.Proofs.YtcpofeehpijbcaaGreatDoor
open Lib renaming hid → lh
open Go.RowKit Go.Lib Go.Shelf
attribute [local go_sem ↓] Go.wp_at_zero Go.wp_at_succ
theorem join5 (b:Nat) (t:TypeId) (x1 x2 x3 x4 x5:List UInt8) (w:World) (hc:BlkV w b t #[.string ⟨x1.toArray⟩,.string ⟨x2.toArray⟩,.string ⟨x3.toArray⟩,.string ⟨x4.toArray⟩,.string ⟨x5.toArray⟩]) (hl:x1.length+x2.length+x3.length+x4.length+x5.length≤100000000000000) :
  Calls Tryz.prog 122 #[.slice (some ⟨b,0,none⟩) 5 5] w fun e w'=>e=.returned (.string ⟨(x1 ++ (x2 ++ (x3 ++ (x4 ++ x5)))).toArray⟩)∧Below w.heap.size w w':=by
 have h:=join_any b t [x1,x2,x3,x4,x5] w hc (by show 5≤100; omega) (by simp; omega);have e:[x1,x2,x3,x4,x5].flatten=x1 ++ (x2 ++ (x3 ++ (x4 ++ x5))):=(by simp);rw [e] at h;exact h
theorem escE (l:List UInt8) (hl:l.length≤100000) (w:World) (hE:Env w):Calls Tryz.prog 124 #[.string ⟨l.toArray⟩] w fun e w'=>e=.returned (.string ⟨(esc l).toArray⟩)∧Below w.heap.size w w':=by
 obtain ⟨m,hm⟩:=hE.ml;exact escape_any l hl m w hm
def sCN2:List UInt8:=[67,79,78,84,73,78,85,69,32,32]
def plS (head:List UInt8) (ps:List (List UInt8)) (j:Nat):List UInt8:=padR ((if j=0 then head else sCN2) ++ ([39] ++ (esc (ps.getD j []) ++ ((if j+1=ps.length then [] else [38]) ++ [39])))) 80
def mlS (head:List UInt8) (ps:List (List UInt8)) (k:Nat):List UInt8:=(List.range k).flatMap (plS head ps)
theorem mlS_step (head:List UInt8) (ps:List (List UInt8)) (k:Nat):mlS head ps (k+1)=mlS head ps k ++ plS head ps k:=by
 unfold mlS;rw [List.range_succ,List.flatMap_append];simp
theorem pcs_bd:∀ (r:List UInt8) (cur:List UInt8) (n:Nat),(∀ p∈pcs cur n r,p.length≤cur.length+r.length+1)∧1≤(pcs cur n r).length∧(pcs cur n r).length≤r.length+1
 | [],cur,n=>by
  rw [pcs];exact ⟨fun p hp=>by rw [List.mem_singleton.1 hp]; omega,Nat.le_refl _,Nat.le_refl _⟩
 | c :: r,cur,n=>by
  rw [pcs];split
  ·have ih:=pcs_bd r [c] (oneN c);refine ⟨fun p hp=>?_,by simp,by simp only [List.length_cons]; omega⟩;rcases List.mem_cons.1 hp with rfl | hp
   ·omega
   ·have:=ih.1 p hp;simp only [List.length_cons,List.length_nil] at this ⊢;omega
  ·have ih:=pcs_bd r (cur ++ [c]) (n+oneN c);refine ⟨fun p hp=>?_,ih.2.1,by simp only [List.length_cons]; omega⟩;have:=ih.1 p hp;simp only [List.length_append,List.length_cons,List.length_nil] at this ⊢;omega
theorem BuilderAtF.below_ {T e:TypeId} {B b:Nat} {p:Value} {bs:List Value} {W W':World} (h:Lib.BuilderAtF T e B b p bs W) (hb:Below W.heap.size W W'):Lib.BuilderAtF T e B b p bs W':=by
 obtain ⟨hB,v,hv,hown,hne⟩:=h;refine ⟨hB,v,(hb.block b (lt_of_block hv)).trans hv,⟨hown.1,?_⟩,hne⟩;rcases hown.2 with hn | ⟨g,cap,cur,fz,hv2,hbg,hg,rest⟩
 ·exact .inl hn
 ·exact .inr ⟨g,cap,cur,fz,hv2,hbg,(hb.block g (lt_of_block hg)).trans hg,rest⟩
theorem IsBuilderF.below_ {T e:TypeId} {B b:Nat} {bs:List Value} {W W':World} (h:Lib.IsBuilderF T e B b bs W) (hb:Below W.heap.size W W'):Lib.IsBuilderF T e B b bs W':=
 h.elim (fun x=>.inl (BuilderAtF.below_ x hb)) (fun x=>.inr (BuilderAtF.below_ x hb))
theorem bWk (B b:Nat) (a s:List UInt8) (w:World) (h:Lib.IsBuilderF 114 5 B b (Lib.byteCells a) w) (hl:a.length+s.length≤140737488355328) (hB:B≤w.heap.size) :
  Calls Tryz.prog 83 #[.pointer (some ⟨b,0,none⟩),.string ⟨s.toArray⟩] w fun e w'=>e=.returned (.tuple #[.int .i64 s.length,.nilIface])∧Lib.IsBuilderF 114 5 B b (Lib.byteCells (a ++ s)) w'∧Below B w w'∧Lib.OthersKept 5 (some b) w w':=by
 have hsz:(ByteArray.mk s.toArray).size=s.length:=(by simp [ByteArray.size]);have hk:=Any.Builder_WriteString_k { Tryz.lays156 with } Tryz.Builder_Extra_156 B b (Lib.byteCells a) ⟨s.toArray⟩ w h (by rw [byteCells_len,hsz]; exact hl) hB;refine hk.mono ?_;rintro e w' ⟨rfl,h1,h2,h3⟩;rw [strCells_mk,← byteCells_app] at h1;exact ⟨by rw [hsz],.inr h1,h2,h3⟩
theorem kept_row {w w':World} {g b:Nat} {cur:Array Value} (h:BlkV w g 9 cur) (hk:Lib.OthersKept 5 (some b) w w') (hg:g≠b):BlkV w' g 9 cur:=
 hk g _ h (fun e=>hg (Option.some.inj e)) (fun c fz e=>by injection e with _ e2 _; exact absurd e2 (by decide))
theorem lines_long (c:CD) (hc:OkC c) (hk:c.k.length≤1000) (ht:c.t.length≤10000) (ho:c.o.length≤10000000000000) (h1:c.kd≠1) (h70:70 < (q0s c).length) (ha:∀ b∈c.t,b.toNat < 128) (w:World) (hE:Env w) :
  Calls Tryz.prog 84 #[.agg #[.string ⟨c.k.toArray⟩,.int .u8 c.kd,.bool c.y,.int .i64 c.n,.int .i64 c.e,.string ⟨c.t.toArray⟩,.string ⟨c.o.toArray⟩]] w fun e w'=>e=.returned (.string ⟨(mlS (padR c.k 8 ++ [61,32]) (pcs [] 0 c.t) (pcs [] 0 c.t).length).toArray⟩)∧Below w.heap.size w w':=by
 have EN:=lh hE;have HB:=lh (fun W (hW:Below w.heap.size w W)=>behind_any c hc (fun _=>ht) ho W (hE.keep hW));have B0:Hid (Below w.heap.size w (w.alloc (.cells #[.string ⟨c.k.toArray⟩,.int .u8 c.kd,.bool c.y,.int .i64 c.n,.int .i64 c.e,.string ⟨c.t.toArray⟩,.string ⟨c.o.toArray⟩] 31))):=blw1 _ _;have K0:Hid (BlkV (w.alloc (.cells #[.string ⟨c.k.toArray⟩,.int .u8 c.kd,.bool c.y,.int .i64 c.n,.int .i64 c.e,.string ⟨c.t.toArray⟩,.string ⟨c.o.toArray⟩] 31)) w.heap.size 31 #[.string ⟨c.k.toArray⟩,.int .u8 c.kd,.bool c.y,.int .i64 c.n,.int .i64 c.e,.string ⟨c.t.toArray⟩,.string ⟨c.o.toArray⟩]):=BlkV.fresh rfl _ _;have HP:=lh (fun W=>pad8 c.k (by omega) W);have hpl:=padR_len c.k 8;have PI:=lh (fun W=>pieces_any c.t (by omega) ha W);obtain ⟨pb,pl1,pl2⟩:=pcs_bd c.t [] 0;have PB:=lh pb;have a1:((c.kd:Int) == 1)=false:=(by simp; omega);have d70:decide (((q0s c).length:Int)≤70)=false:=decide_eq_false (by omega);have d70n:decide ((q0s c).length≤70)=false:=decide_eq_false (by omega);have hcl:(pcs [] 0 c.t).length≤10001:=(by omega);have hctl:=ht;clear h1 hc hE ho ha pb h70;generalize q0s c=bh at *;generalize padR c.k 8=q at *;have HJ:=lh (fun b V (h:BlkV V b 9 #[.string ⟨q.toArray⟩,.string ⟨#[61,32]⟩])=>join2 b _ q [61,32] V h (by simp; omega));have hql:(q ++ [61,32]).length≤2000:=(by simp; omega);generalize hH:q ++ [61,32]=H at *;clear hH hpl;obtain ⟨k,kd,y,n,e,t,o⟩:=c;dsimp only at *;generalize hps:pcs [] 0 t=P at *;clear hps;go_enter Tryz.func84,Tryz.ntmps84
 go_wp2_with fail
 generalize hw0:w.alloc (.cells #[.string ⟨k.toArray⟩,.int .u8 kd,.bool y,.int .i64 n,.int .i64 e,.string ⟨t.toArray⟩,.string ⟨o.toArray⟩] 31)=w0 at *;clear hw0;refine (HP.out _).mono ?_;rintro x w1 ⟨rfl,hb⟩;replace B0:=lh (q0a B0.out hb);replace K0:=lh (K0.out.keep hb);clear hb;have c0:=K0.out.at_ 0 rfl;have c1:=K0.out.at_ 1 rfl;have c2:=K0.out.at_ 2 rfl;have c3:=K0.out.at_ 3 rfl;have c4:=K0.out.at_ 4 rfl;have c5:=K0.out.at_ 5 rfl;have c6:=K0.out.at_ 6 rfl;go_wp2_with fail
 refine (HJ.out _ _ (BlkV.fresh rfl _ _)).mono ?_;rintro x w2 ⟨rfl,hb⟩;clear c0 c1 c2 c3 c4 c5 c6;replace K0:=lh ((K0.out.alloc _).keep hb);replace B0:=lh (q0a (q0a B0.out (blw1 _ _)) hb);clear hb HJ HP;have c0:=K0.out.at_ 0 rfl;have c1:=K0.out.at_ 1 rfl;have c2:=K0.out.at_ 2 rfl;have c3:=K0.out.at_ 3 rfl;have c4:=K0.out.at_ 4 rfl;have c5:=K0.out.at_ 5 rfl;have c6:=K0.out.at_ 6 rfl;go_wp2_with fail
 refine (HB.out _ B0.out).mono ?_;rintro x w3 ⟨rfl,hb⟩;clear c0 c1 c2 c3 c4 c5 c6;replace K0:=lh (K0.out.keep hb);replace B0:=lh (q0a B0.out hb);clear hb HB;go_upto_region 8 with fail
 have KB:Hid (Lib.IsBuilderF 114 5 w3.heap.size w3.heap.size (Lib.byteCells (mlS H P 0)) (w3.alloc (.cells #[.pointer none,.slice none 0 0] 114))):=IsBuilderF.of (Lib.fresh_isBuilder _ _ w3);have BB:Hid (Below w3.heap.size w3 (w3.alloc (.cells #[.pointer none,.slice none 0 0] 114))):=blw1 _ _;replace K0:=lh (K0.out.keep (blw1 w3 (.cells #[.pointer none,.slice none 0 0] 114)));have L4:Hid (w3.heap.size < (w3.alloc (.cells #[.pointer none,.slice none 0 0] 114)).heap.size):=(by unfold Hid; simp);generalize w3.alloc (.cells #[.pointer none,.slice none 0 0] 114)=w4 at *;have c5:=K0.out.at_ 5 rfl;go_wp2_with fail
 refine (PI.out _).mono ?_;rintro e w5 ⟨v,rfl,how,hb⟩;replace KB:=lh (IsBuilderF.below_ KB.out hb);replace BB:=lh (q0a BB.out hb)
 obtain ⟨g,cap,cur,rfl,hg,hblk,hcur⟩:∃ g cap cur,v=.slice (some ⟨g,0,none⟩) P.length cap∧w4.heap.size+1≤g∧BlkV w5 g 9 cur∧∀ j (h:j < P.length),cur[j]? = some (.string ⟨P[j].toArray⟩):=by
  rcases how.2 with ⟨hv,h0⟩ | ⟨g,cap,cur,hv,hb2,hg,hnc,hcm,hsz,htk⟩
  ·omega
  ·refine ⟨g,cap,cur,hv,hb2,hg,fun j h=>?_⟩
   have h2:(cur.toList.take (P.length * 1))[j]? = some (.string ⟨P[j].toArray⟩):=by
    rw [htk,List.getElem?_map,List.getElem?_eq_getElem h];rfl
   rw [List.getElem?_take,if_pos (by omega)] at h2;rw [← Array.getElem?_toList];exact h2
 have GB:=lh hblk;have HC:=lh hcur;have L5:Hid (w3.heap.size≤w5.heap.size):=Nat.le_of_lt (Nat.lt_of_lt_of_le L4.out hb.size);have gne:Hid (g≠w3.heap.size):=(by have:=L4.out; unfold Hid; omega);clear hb how hblk hcur K0 c5 PI L4 hg;have CP:=lh (fun (j:Nat) (h:j < P.length)=>PB.out P[j] (List.getElem_mem h));have GD:=lh (fun (j:Nat) (h:j < P.length)=>(show P.getD j []=P[j] by simp [List.getD,List.getElem?_eq_getElem h]));go_wp2_with fail
 go_loopw [3,39] (fun s3 s39 wx=>∃ j:Nat,s39=.int .i64 j∧j≤P.length∧s3=.string ⟨(if j=0 then H else sCN2).toArray⟩∧(mlS H P j).length≤j * 100000∧Lib.IsBuilderF 114 5 w3.heap.size w3.heap.size (Lib.byteCells (mlS H P j)) wx∧BlkV wx g 9 cur∧Below w3.heap.size w3 wx) (fun _ v _=>P.length - (RowKit.intOf v).toNat)
 case atStart=>exact ⟨0,rfl,Nat.zero_le _,rfl,Nat.le_refl _,KB.out,GB.out,BB.out⟩
 case round=>
  clear KB GB BB;obtain ⟨j,rfl,hj,rfl,hml,hkb,hgb,hbb⟩:=hrel;have KB:=lh hkb;have GB:=lh hgb;have BB:=lh hbb;clear hkb hgb hbb;by_cases hlt:j < P.length
  ·have tk:decide ((j:Int) < (P.length:Int))=true:=decide_eq_true (by omega);have gc:wr.cell? ⟨g,j,none⟩=some (.string ⟨P[j].toArray⟩):=(GB.out.cell j).trans (HC.out j hlt);have pl:=CP.out j hlt;have ES:=lh (fun W (h:Below w.heap.size w W)=>escE P[j] (by simp only [List.length_nil] at pl; omega) W (EN.out.keep h));have MS:=lh (mlS_step H P j);have PS:Hid (plS H P j=padR ((if j=0 then H else sCN2) ++ ([39] ++ (esc P[j] ++ ((if j+1=P.length then [] else [38]) ++ [39])))) 80):=(by unfold Hid plS; rw [GD.out j hlt]);have el:=(esc_len P[j]).2;have hhl:(if j=0 then H else sCN2).length≤2000:=(by split; exact hql; decide);generalize (if j=0 then H else sCN2)=hd at *;simp only [List.length_nil] at pl;have B2:=lh (q0a B0.out BB.out);have tn:decide ((0:Int)≤(j:Int))=true:=decide_eq_true (by omega);go_upto_if 48 with (fail)
   go_cut [9] from 48 to 49 (fun s9 wx=>s9=.string ⟨(if j+1=P.length then ([]:List UInt8) else [38]).toArray⟩∧wx=wr)
   case first=>
    have i1:IntKind.i64.wrap ((P.length:Int) - 1)=(P.length:Int) - 1:=IntWalk.i64_in _ (by omega);by_cases hl:j+1=P.length
    ·have e1:((j:Int) == (P.length:Int) - 1)=true:=beq_iff_eq.2 (by omega);go_wp2_with fail
     go_meet
     exact ⟨by rw [if_pos hl],rfl⟩
    ·have e1:((j:Int) == (P.length:Int) - 1)=false:=beq_eq_false_iff_ne.2 (by omega);go_wp2_with fail
     go_meet
     exact ⟨by rw [if_neg hl],rfl⟩
   case rest=>
    obtain ⟨rfl,rfl⟩:=hcut;have hmo:(if j+1=P.length then ([]:List UInt8) else [38]).length≤1:=(by split <;> decide);generalize (if j+1=P.length then ([]:List UInt8) else [38])=mo at *;generalize P[j]=p at *;clear gc;go_wp2_with fail
    refine (ES.out _ B2.out).mono ?_;rintro x w6 ⟨rfl,hb⟩;replace KB:=lh (IsBuilderF.below_ KB.out hb);replace GB:=lh (GB.out.keep hb);replace BB:=lh (q0a BB.out hb);clear hb ES B2;generalize esc p=es at *;have J5:=lh (fun b V (h:BlkV V b 9 #[.string ⟨hd.toArray⟩,.string ⟨#[39]⟩,.string ⟨es.toArray⟩,.string ⟨mo.toArray⟩,.string ⟨#[39]⟩])=>join5 b _ hd [39] es mo [39] V h (by simp; omega));go_wp2_with fail
    have hb:=blw1 w6 (.cells #[.string ⟨hd.toArray⟩,.string ⟨#[39]⟩,.string ⟨es.toArray⟩,.string ⟨mo.toArray⟩,.string ⟨#[39]⟩] 9);replace KB:=lh (IsBuilderF.below_ KB.out hb);replace GB:=lh (GB.out.keep hb);replace BB:=lh (q0a BB.out hb);clear hb;refine (J5.out _ _ (BlkV.fresh rfl _ _)).mono ?_;rintro x w7 ⟨rfl,hb⟩;replace KB:=lh (IsBuilderF.below_ KB.out hb);replace GB:=lh (GB.out.keep hb);replace BB:=lh (q0a BB.out hb);clear hb J5;have hal:(hd ++ ([39] ++ (es ++ (mo ++ [39])))).length≤30000:=(by simp; omega);have P8:=lh (fun W=>pad80 (hd ++ ([39] ++ (es ++ (mo ++ [39])))) (by omega) W);have pll:=padR_len (hd ++ ([39] ++ (es ++ (mo ++ [39])))) 80;rw [← PS.out] at P8 pll;generalize hd ++ ([39] ++ (es ++ (mo ++ [39])))=al at *;clear PS;generalize plS H P j=ln at *;go_wp2_with fail
    refine (P8.out _).mono ?_;rintro x w8 ⟨rfl,hb⟩;replace KB:=lh (IsBuilderF.below_ KB.out hb);replace GB:=lh (GB.out.keep hb);replace BB:=lh (q0a BB.out hb);clear hb P8;go_wp2_with fail
    refine (bWk _ _ _ _ _ KB.out (by omega) BB.out.size).mono ?_;rintro x w9 ⟨rfl,hk9,hb9,ho9⟩;have BB:=lh (BB.out.trans hb9);have GB:=lh (kept_row GB.out ho9 gne.out);rw [← MS.out] at hk9;have KB:=lh hk9;have ml2:Hid ((mlS H P (j+1)).length≤(j+1) * 100000):=(by unfold Hid; rw [MS.out,List.length_append]; omega);clear hk9 hb9 ho9;have i3:IntKind.i64.wrap ((j:Int)+1)=(j:Int)+1:=IntWalk.i64_in _ (by omega);go_wp2
    go_roundw
    case rel=>exact ⟨j+1,by go_num,by omega,rfl,ml2.out,KB.out,GB.out,BB.out⟩
    case measure=>simp [RowKit.intOf]; omega
  ·have tk:decide ((j:Int) < (P.length:Int))=false:=decide_eq_false (by omega);obtain rfl:j=P.length:=by omega
   have B2:=lh (q0a B0.out BB.out);go_wp2_with fail
   refine (Any.Builder_String_any_f Tryz.lays169 Tryz.Builder_Extra_169 w3.heap.size w3.heap.size (mlS H P P.length) _ KB.out BB.out.size).mono ?_;rintro e w9 ⟨rfl,-,hb⟩;have B3:=lh (q0a B0.out (BB.out.trans hb));clear hb;go_wp2
   go_ret
   exact ⟨rfl,B3.out⟩
def lineA (c:CD):List UInt8:=if c.kd=1∨(q0s c).length≤70 then lineS c else mlS (padR c.k 8 ++ [61,32]) (pcs [] 0 c.t) (pcs [] 0 c.t).length
theorem chk_prt {c:CD} (h:chkC c=true):∀ b∈c.t,b.toNat < 128:=by
 intro b hb;unfold chkC chkC1 at h;simp only [Bool.and_eq_true] at h;have:=List.all_eq_true.1 h.1.1.2.1 b hb;simp only [pch,Bool.and_eq_true,decide_eq_true_eq] at this;omega
theorem lines_all (c:CD) (hc:OkK c) (h:chkC c=true) (w:World) (hE:Env w) :
  Calls Tryz.prog 84 #[.agg #[.string ⟨c.k.toArray⟩,.int .u8 c.kd,.bool c.y,.int .i64 c.n,.int .i64 c.e,.string ⟨c.t.toArray⟩,.string ⟨c.o.toArray⟩]] w fun e w'=>e=.returned (.string ⟨(lineA c).toArray⟩)∧Below w.heap.size w w':=by
 have hl:=chk_len h;by_cases h1:c.kd=1∨(q0s c).length≤70
 ·unfold lineA;rw [if_pos h1];exact lines_any c hc.ok (by omega) (by omega) hc.o h1 w hE
 ·unfold lineA;rw [if_neg h1];exact lines_long c hc.ok (by omega) (by omega) hc.o (fun e=>h1 (.inl e)) (by omega) (chk_prt h) w hE
theorem print_all (cs:List CD) (A:Option Addr) (B c:Nat) (w:World) (hs:SlC w B A cs c) (hE:Env w) (hn:cs.length≤200) (hv:∀ x∈cs,chkC x=true) (hl:(cs.flatMap lineA).length≤1000000) :
  Calls Tryz.prog 35 #[.slice A cs.length c] w fun e w'=>e=.returned (.tuple #[.string ⟨(cs.flatMap lineA).toArray⟩,.int .i64 0])∧Below w.heap.size w w':=by
 have S:=lh hs;have EN:=lh hE;have V:=lh hv;have B0:Hid (Below w.heap.size w (w.alloc (.cells #[.pointer none,.slice none 0 0] 114))):=blw1 _ _;have K0:Hid (Lib.IsBuilder 114 5 w.heap.size w.heap.size (Lib.byteCells ((cs.take 0).flatMap lineA)) (w.alloc (.cells #[.pointer none,.slice none 0 0] 114))):=Lib.fresh_isBuilder _ _ w;have t1:decide ((200:Int) < (cs.length:Int))=false:=decide_eq_false (by omega);clear hs hE hv;go_enter Tryz.func35,Tryz.ntmps35
 go_wp2
 generalize hw0:w.alloc (.cells #[.pointer none,.slice none 0 0] 114)=w0 at *;clear hw0;go_loopw [13] (fun s13 wr=>∃ k:Nat,k≤cs.length∧s13=.int .i64 k∧Lib.IsBuilder 114 5 w.heap.size w.heap.size (Lib.byteCells ((cs.take k).flatMap lineA)) wr∧Below w.heap.size w wr) (fun v _=>cs.length - (RowKit.intOf v).toNat)
 case atStart=>exact ⟨0,Nat.zero_le _,rfl,K0.out,B0.out⟩
 case round=>
  obtain ⟨k,hk,rfl,hbd,hbw⟩:=hrel;have KB:=lh hbd;have HB:=lh hbw;clear hbd hbw K0 B0;by_cases hlt:k < cs.length
  ·have tk:decide ((k:Int) < (cs.length:Int))=true:=decide_eq_true (by omega);have S2:=lh (S.out.below HB.out);obtain ⟨b,o,rfl,-,q0,q1,q2,q3,q4,q5,q6,hok⟩:=S2.out.at_ hlt;have OK:=lh hok;have hck:=V.out _ (List.getElem_mem hlt);have hle2:=flat_le lineA cs (k+1);have FS:=lh (flat_step lineA cs k hlt);have hlk:=chk_len hck;have CK:=lh (fun W (h:Env W)=>kcheck_ok (cs[k]'hlt) OK.out hck W h);have LN:=lh (fun W (h:Env W)=>lines_all (cs[k]'hlt) OK.out hck W h);rw [FS.out,List.length_append] at hle2;clear hok S2 hck hlk OK;skip;generalize lineA (cs[k]'hlt)=ln at *;generalize cs[k]'hlt=x at *;generalize hp:(cs.take k).flatMap lineA=pr at *;clear hp;go_wp2_with fail
   generalize hwb:wr.alloc (.cells #[.string ⟨x.k.toArray⟩,.int .u8 x.kd,.bool x.y,.int .i64 x.n,.int .i64 x.e,.string ⟨x.t.toArray⟩,.string ⟨x.o.toArray⟩] 31)=wb at *;have HBb:Hid (Below w.heap.size w wb):=(by rw [← hwb]; exact q0a HB.out (blw1 _ _));have KBb:Hid (Lib.IsBuilder 114 5 w.heap.size w.heap.size (Lib.byteCells pr) wb):=(by rw [← hwb]; exact IsBuilder.below_ KB.out (blw1 _ _));have XX:Hid (BlkV wb wr.heap.size 31 #[.string ⟨x.k.toArray⟩,.int .u8 x.kd,.bool x.y,.int .i64 x.n,.int .i64 x.e,.string ⟨x.t.toArray⟩,.string ⟨x.o.toArray⟩]):=(by rw [← hwb]; exact BlkV.fresh rfl _ _);clear hwb q0 q1 q2 q3 q4 q5 q6 KB;have c0:=XX.out.at_ 0 rfl;have c1:=XX.out.at_ 1 rfl;have c2:=XX.out.at_ 2 rfl;have c3:=XX.out.at_ 3 rfl;have c4:=XX.out.at_ 4 rfl;have c5:=XX.out.at_ 5 rfl;have c6:=XX.out.at_ 6 rfl;go_wp2_with fail
   refine (CK.out _ (EN.out.keep HBb.out)).mono ?_;rintro e w1 ⟨rfl,hb⟩;clear c0 c1 c2 c3 c4 c5 c6;replace XX:=lh (XX.out.keep hb);replace KBb:=lh (IsBuilder.below_ KBb.out hb);replace HBb:=lh (q0a HBb.out hb);clear hb;have c0:=XX.out.at_ 0 rfl;have c1:=XX.out.at_ 1 rfl;have c2:=XX.out.at_ 2 rfl;have c3:=XX.out.at_ 3 rfl;have c4:=XX.out.at_ 4 rfl;have c5:=XX.out.at_ 5 rfl;have c6:=XX.out.at_ 6 rfl;go_wp2_with fail
   refine (LN.out _ (EN.out.keep HBb.out)).mono ?_;rintro e w2 ⟨rfl,hb⟩;clear c0 c1 c2 c3 c4 c5 c6 XX;replace KBb:=lh (IsBuilder.below_ KBb.out hb);replace HBb:=lh (q0a HBb.out hb);clear hb;go_wp2_with fail
   refine (bW_any _ _ _ _ _ KBb.out (by omega) HBb.out.size).mono ?_;rintro e w3 ⟨rfl,hbd,hb⟩;replace HBb:=lh (HBb.out.trans hb);have K3:=lh hbd;clear hb hbd KBb;go_wp2
   go_roundw
   case rel=>exact ⟨k+1,by omega,by go_num,by rw [FS.out]; exact K3.out,HBb.out⟩
   case measure=>simp [RowKit.intOf]; omega
  ·have tk:decide ((k:Int) < (cs.length:Int))=false:=decide_eq_false (by omega);have ek:cs.take k=cs:=List.take_of_length_le (by omega);rw [ek] at KB;clear ek V;go_wp2_with fail
   refine (Tryz.Builder_String_any w.heap.size w.heap.size (cs.flatMap lineA) _ KB.out HB.out.size).mono ?_;rintro e w1 ⟨rfl,hb⟩;replace HB:=lh (HB.out.trans hb);clear hb;go_wp2
   go_ret2
   exact ⟨rfl,HB.out⟩
end Go.Proofs.YtcpofeehpijbcaaGreatDoor
import Derived.Test.YtcpofeehpijbcaaGreatDoorRf6
import Derived.Lib.LazyBuf
import Derived.Test.YtcpofeehpijbcaaGreatDoorPa9
set_option maxHeartbeats 16000000
set_option maxRecDepth 100000
namespace Go.Proofs.YtcpofeehpijbcaaGreatDoor
open Lib renaming hid → lh
open Go.RowKit Go.Lib Go.Shelf
attribute [local go_sem ↓] Go.wp_at_zero Go.wp_at_succ
def putS (l:List CD) (c:CD):List CD:=match fndK c.k l with
 | some i=>if c.kd=1 then l ++ [c] else l.set i c
 | none=>l ++ [c]
theorem putS_len (l:List CD) (c:CD):(putS l c).length≤l.length+1:=by
 unfold putS;split
 ·split
  ·rw [List.length_append]; exact Nat.le_refl _
  ·rw [List.length_set]; exact Nat.le_succ _
 ·rw [List.length_append]; exact Nat.le_refl _
theorem set_right {α:Type} (a b:List α) (m i:Nat) (v:α) (h:a.length=m):(a ++ b).set (m+i) v=a ++ b.set i v:=by
 rw [List.set_append_right _ _ (by omega),show m+i - a.length=i by omega]
theorem flat_set (k tx o:List UInt8) (kd:Nat) (y:Bool) (n e:Int):∀ (l:List CD) (i:Nat),i < l.length→(l.set i ⟨k,kd,y,n,e,tx,o⟩).flatMap CD.cells=(((((((l.flatMap CD.cells).set (i * 7) (.string ⟨k.toArray⟩)).set (i * 7+1) (.int .u8 kd)).set (i * 7+2) (.bool y)).set (i * 7+3) (.int .i64 n)).set (i * 7+4) (.int .i64 e)).set (i * 7+5) (.string ⟨tx.toArray⟩)).set (i * 7+6) (.string ⟨o.toArray⟩)
 | x :: l,0,_=>rfl
 | x :: l,i+1,h=>by
  have ih:=flat_set k tx o kd y n e l i (by simpa using h);have e7:∀ j,(i+1) * 7+j=7+(i * 7+j):=fun j=>by omega
  have e0:(i+1) * 7=7+i * 7:=(by omega);rw [List.set_cons_succ,List.flatMap_cons,List.flatMap_cons,ih,e7 1,e7 2,e7 3,e7 4,e7 5,e7 6,e0];rw [set_right _ _ _ _ _ (cells7 x),set_right _ _ _ _ _ (cells7 x),set_right _ _ _ _ _ (cells7 x),set_right _ _ _ _ _ (cells7 x),set_right _ _ _ _ _ (cells7 x),set_right _ _ _ _ _ (cells7 x),set_right _ _ _ _ _ (cells7 x)]
theorem own_parts {w:World} {base g c:Nat} {cs:List CD} (h:w.ownsRow base 31 7 (.slice (some ⟨g,0,none⟩) cs.length c) cs.length (cs.flatMap CD.cells)) (hp:0 < cs.length):∃ cur,base≤g∧BlkV w g 31 cur∧cur.size=c * 7∧cs.length≤c∧c≤maxLen∧cur.toList.take (cs.length * 7)=cs.flatMap CD.cells:=by
 rcases h.2 with ⟨hv,h0⟩ | ⟨g',cap,cur,hv,hb,hg,hnc,hcm,hsz,htk⟩
 ·omega
 ·injection hv with h1 _ h3
  injection h1 with h1
  injection h1 with h1 _ _
  subst h1 h3;exact ⟨cur,hb,hg,hsz,hnc,hcm,htk⟩
theorem own_set {w:World} {base g c:Nat} {cs:List CD} (h:w.ownsRow base 31 7 (.slice (some ⟨g,0,none⟩) cs.length c) cs.length (cs.flatMap CD.cells)) (hp:0 < cs.length) (i:Nat) (hi:i < cs.length) (k tx o:List UInt8) (kd:Nat) (y:Bool) (n e:Int) :
  ((((((((w).setCell ⟨g,i * 7,none⟩ (.string ⟨k.toArray⟩)).setCell ⟨g,i * 7+1,none⟩ (.int .u8 kd)).setCell ⟨g,i * 7+2,none⟩ (.bool y)).setCell ⟨g,i * 7+3,none⟩ (.int .i64 n)).setCell ⟨g,i * 7+4,none⟩ (.int .i64 e)).setCell ⟨g,i * 7+5,none⟩ (.string ⟨tx.toArray⟩)).setCell ⟨g,i * 7+6,none⟩ (.string ⟨o.toArray⟩)).ownsRow base 31 7 (.slice (some ⟨g,0,none⟩) cs.length c) cs.length ((cs.set i ⟨k,kd,y,n,e,tx,o⟩).flatMap CD.cells):=by
 obtain ⟨cur,hb,hg,hsz,hnc,hcm,htk⟩:=own_parts h hp;have B:=((((((BlkV.set_ (t:=31) hg (i * 7) (.string ⟨k.toArray⟩)).set_ (i * 7+1) (.int .u8 kd)).set_ (i * 7+2) (.bool y)).set_ (i * 7+3) (.int .i64 n)).set_ (i * 7+4) (.int .i64 e)).set_ (i * 7+5) (.string ⟨tx.toArray⟩)).set_ (i * 7+6) (.string ⟨o.toArray⟩);refine ⟨by rw [cds7,List.length_set],.inr ⟨g,c,_,rfl,hb,B,hnc,hcm,by simp only [Array.size_setIfInBounds]; exact hsz,?_⟩⟩;simp only [Array.toList_setIfInBounds,List.take_set];rw [htk,flat_set k tx o kd y n e cs i hi]
theorem own_some {w:World} {base:Nat} {v:Value} {cs:List CD} (h:w.ownsRow base 31 7 v cs.length (cs.flatMap CD.cells)):(v=.slice none 0 0∧cs=[])∨∃ g c,v=.slice (some ⟨g,0,none⟩) cs.length c:=by
 rcases h.2 with ⟨hv,h0⟩ | ⟨g',cap,cur,hv,_⟩
 ·exact .inl ⟨hv,List.eq_nil_of_length_eq_zero h0⟩
 ·exact .inr ⟨_,_,hv⟩
theorem own_slg {w:World} {base:Nat} {v:Value} {cs:List CD} (h:w.ownsRow base 31 7 v cs.length (cs.flatMap CD.cells)) (ha:∀ x∈cs,OkG x) (hl:cs.length≤1000000):∃ A c,v=.slice A cs.length c∧SlG w w.heap.size A cs c:=by
 rcases h.2 with ⟨rfl,h0⟩ | ⟨g,cap,cur,rfl,hb,hg,hnc,hcm,hsz,htk⟩
 ·have:cs=[]:=List.eq_nil_of_length_eq_zero h0;subst this;exact ⟨none,0,rfl,fun hp=>absurd hp (by simp),(fun x hx=>by cases hx),Nat.le_refl _,Nat.zero_le _⟩
 ·refine ⟨_,_,rfl,fun _=>⟨g,0,rfl,lt_of_block hg,fun i u hu=>?_⟩,ha,hnc,by omega⟩;have:=h.cells (g:=g) rfl i u hu;rw [add_at0] at this;rwa [Nat.zero_add]
theorem app_cardsR (ty B0 B:Nat) (A:Option Addr) (cs:List CD) (c:Nat) (v:Value) (n:Nat) (xs:List Value) (w:World) (hs:RdV w B A (cs.flatMap CD.cells)) (ho:w.ownsRow B0 31 7 v n xs) (hn:n+cs.length≤1000000) (hB:B0≤w.heap.size) :
  ∃ v' w',(Builtin.append_ #[22,22] ty #[v,.slice A cs.length c]).run Tryz.prog w=.ok v' w'∧w'.ownsRow B0 31 7 v' (n+cs.length) (xs ++ cs.flatMap CD.cells)∧(∀ B',B'≤B0→Below B' w w'):=by
 obtain ⟨i,z,hi,hz,hzs,hsz,hby⟩:=infoC
 cases cs with
 | nil=>
  have hr:(Builtin.append_ #[22,22] ty #[v,.slice A 0 c]).run Tryz.prog w=.ok v w:=by
   have hsrc:Src Tryz.prog i.size 22 (.slice A 0 c) 0 [] w:=by
    cases A with
    | none=>exact Src.ofNil w Tryz.underlying22 c
    | some a=>exact Src.ofSlice w Tryz.underlying22 a 0 c [] (by simp) (fun j u h=>by simp at h) (fun u h=>by cases h)
   rcases ho.2 with ⟨rfl,rfl⟩ | ⟨g,cap,cur,rfl,_,_,hnc,_⟩
   ·exact run_append_nothing w 22 22 ty 31 i Tryz.underlying22 hi none 0 0 (Nat.le_refl _) _ hsrc
   ·exact run_append_nothing w 22 22 ty 31 i Tryz.underlying22 hi _ n cap hnc _ hsrc
  refine ⟨v,w,hr,?_,fun B' _=>Below.refl _ _⟩;simpa using ho
 | cons x l=>
  obtain ⟨b,q,rfl,-,hc⟩:=hs (by rw [cds7]; simp);obtain ⟨v',w',hr,ho',hg,-⟩:=run_append_own (P:=Tryz.prog) w B0 22 ty 31 i z 7 72 Tryz.underlying22 hi hz hsz hby hzs (by omega) v n xs ho ⟨b,q,none⟩ (x :: l).length c _ (cds7 _) (fun j u hu=>by rw [Addr.add_lit]; exact hc j u hu) (one7 _) (by unfold maxLen; omega) (by omega) hB;refine ⟨v',w',hr,ho',fun B' hB'=>?_⟩;exact (Below.refl _ _).grown hg (by omega) (fun k hk=>by have:=(World.ownsRow.lt ho k hk).1; omega)
theorem own_belowB {w w':World} {base n:Nat} {e:TypeId} {size:Nat} {v:Value} {xs:List Value} (h:w.ownsRow base e size v n xs) (hb:Below w.heap.size w w'):w'.ownsRow base e size v n xs:=by
 rcases h.2 with ⟨hv,h0⟩ | ⟨g,cap,cur,hv,hg,hh,hnc,hcap,hsz,htk⟩
 ·exact ⟨h.1,.inl ⟨hv,h0⟩⟩
 ·exact ⟨h.1,.inr ⟨g,cap,cur,hv,hg,(hb.block g (lt_of_block hh)).trans hh,hnc,hcap,hsz,htk⟩⟩
theorem clone_any (cs:List CD) (A:Option Addr) (B c:Nat) (w:World) (hs:SlG w B A cs c) (hl:cs.length≤1000) :
  Calls Tryz.prog 60 #[.slice A cs.length c] w fun e w'=>∃ v,e=.returned v∧w'.ownsRow w.heap.size 31 7 v cs.length (cs.flatMap CD.cells)∧Below w.heap.size w w':=by
 have S:=lh hs;clear hs;have en:∀ W,(binOp .eql 22 (.slice A cs.length c) (.slice none 0 0)).run Tryz.prog W=.ok (.bool A.isNone) W:=fun W=>run_eql_slice_nil W 22 31 A _ c Tryz.underlying22
 cases A with
 | none=>
  have h0:cs=[]:=by
   cases cs with
   | nil=>rfl
   | cons x l=>
    obtain ⟨b,q,e,-⟩:=S.out.at_ (k:=0) (Nat.succ_pos _);cases e
  subst h0;simp only [List.length_nil] at en;go_enter Tryz.func60,Tryz.ntmps60
  go_wp2_with fail
  go_ret
  exact ⟨_,rfl,World.ownsRow_nil _ _ _ _,Below.refl _ _⟩
 | some a=>
  have hb:=blw1 w (.cells #[] 31);have K0:BlkV (w.alloc (.cells #[] 31)) w.heap.size 31 #[]:=BlkV.fresh rfl _ _;have ow:(w.alloc (.cells #[] 31)).ownsRow w.heap.size 31 7 (.slice (some ⟨w.heap.size,0,none⟩) 0 0) 0 []:=⟨rfl,.inr ⟨w.heap.size,0,#[],rfl,Nat.le_refl _,K0,Nat.le_refl _,Nat.zero_le _,rfl,rfl⟩⟩;obtain ⟨v',w2,hr,how,hbb⟩:=app_cardsR 22 w.heap.size B (some a) cs c _ 0 [] (w.alloc (.cells #[] 31)) (S.out.below hb).rd ow (by omega) hb.size;rw [Nat.zero_add,List.nil_append] at how;have B2:=lh (hb.trans (hbb _ (Nat.le_refl _)));have HW:=lh how;clear how ow K0 hb hbb S;skip;go_enter Tryz.func60,Tryz.ntmps60
  go_wp2_with (at_builtin; refine wpList_plain rfl fun _ hK=>wp_append_at (.tmp 5) (.tmp 6) 22 rfl _ _ _ _ (by kernel_rfl) (by kernel_rfl) hr (hK _ _ ?_))
  go_ret
  exact ⟨_,rfl,HW.out,B2.out⟩
theorem put_ok (cs:List CD) (A:Option Addr) (B c0:Nat) (c:CD) (w:World) (hs:SlG w B A cs c0) (hl:cs.length≤199) (hc:OkK c) (hk:chkC c=true) (hE:Env w) :
  Calls Tryz.prog 16 #[.slice A cs.length c0,.agg #[.string ⟨c.k.toArray⟩,.int .u8 c.kd,.bool c.y,.int .i64 c.n,.int .i64 c.e,.string ⟨c.t.toArray⟩,.string ⟨c.o.toArray⟩]] w fun e w'=>(∃ A' c',e=.returned (.tuple #[.slice A' (putS cs c).length c',.int .i64 0])∧SlG w' w'.heap.size A' (putS cs c) c')∧Below w.heap.size w w':=by
 have S:=lh hs;have KO:=lh (fun W hW=>kcheck_ok c hc hk W (hE.keep hW));have CL:=lh (fun W hW=>clone_any cs A B c0 W (hs.below hW) (by omega));have FD:=lh (fun W hW=>find_any cs c.k A B c0 W (hs.below hW));have PX:Hid (putS cs c=match fndK c.k cs with | some i=>if c.kd=1 then cs ++ [c] else cs.set i c | none=>cs ++ [c]):=rfl;have LX:=putS_len cs c
 have AL:Hid (∀ x∈putS cs c,OkG x):=fun x hx=>by
  have hx2:x∈cs∨x=c:=by
   unfold putS at hx;split at hx
   ·split at hx
    ·rcases List.mem_append.1 hx with h | h
     ·exact .inl h
     ·exact .inr (List.mem_singleton.1 h)
    ·exact List.mem_or_eq_of_mem_set hx
   ·rcases List.mem_append.1 hx with h | h
    ·exact .inl h
    ·exact .inr (List.mem_singleton.1 h)
  rcases hx2 with h | h
  ·exact hs.all x h
  ·rw [h]; exact ⟨hc.ok,hc.o,hc.t⟩
 have FLT:Hid (∀ i,fndK c.k cs=some i→i < cs.length):=fun i h=>(fnd_lt h).1;have OKK:=lh hc;have hkd:=hc.ok.kd;have h0len:0≤cs.length:=Nat.zero_le _;clear hs hc hk hE;generalize hput:putS cs c=P at *;generalize fndK c.k cs=fi at *;obtain ⟨k,kd,y,n,e,tx,o⟩:=c;dsimp only at *;clear hput;have B0:Hid (Below w.heap.size w (w.alloc (.cells #[.string ⟨k.toArray⟩,.int .u8 kd,.bool y,.int .i64 n,.int .i64 e,.string ⟨tx.toArray⟩,.string ⟨o.toArray⟩] 31))):=blw1 _ _;have K0:Hid (BlkV (w.alloc (.cells #[.string ⟨k.toArray⟩,.int .u8 kd,.bool y,.int .i64 n,.int .i64 e,.string ⟨tx.toArray⟩,.string ⟨o.toArray⟩] 31)) w.heap.size 31 #[.string ⟨k.toArray⟩,.int .u8 kd,.bool y,.int .i64 n,.int .i64 e,.string ⟨tx.toArray⟩,.string ⟨o.toArray⟩]):=BlkV.fresh rfl _ _;go_enter Tryz.func16,Tryz.ntmps16
 have a0:=K0.out.at_ 0 rfl;have a1:=K0.out.at_ 1 rfl;have a2:=K0.out.at_ 2 rfl;have a3:=K0.out.at_ 3 rfl;have a4:=K0.out.at_ 4 rfl;have a5:=K0.out.at_ 5 rfl;have a6:=K0.out.at_ 6 rfl;go_wp2_with fail
 generalize hgw:w.alloc (.cells #[.string ⟨k.toArray⟩,.int .u8 kd,.bool y,.int .i64 n,.int .i64 e,.string ⟨tx.toArray⟩,.string ⟨o.toArray⟩] 31)=w0 at *;clear hgw;refine (KO.out _ B0.out).mono ?_;rintro xx w1 ⟨rfl,hb⟩;replace B0:=lh (q0a B0.out hb);replace K0:=lh (K0.out.keep hb);clear a0 a1 a2 a3 a4 a5 a6;clear hb KO;go_wp2_with fail
 refine (CL.out _ B0.out).mono ?_;rintro xx w2 ⟨v,rfl,ho,hb⟩;have HLT:=lh K0.out.lt;have HW2:=lh hb.size;replace B0:=lh (q0a B0.out hb);replace K0:=lh (K0.out.keep hb);have OW:=lh ho;clear ho hb CL
 obtain ⟨i,rfl,hk1⟩ | ⟨hz,hP⟩:(∃ i,fi=some i∧kd≠1)∨((fi=none∨kd=1)∧P=cs ++ [(⟨k,kd,y,n,e,tx,o⟩:CD)]):=by
  have:=PX.out
  cases fi with
  | none=>exact .inr ⟨.inl rfl,this⟩
  | some i=>
   dsimp only at this;split at this
   ·next h=>exact .inr ⟨.inr h,this⟩
   ·next h=>exact .inl ⟨i,rfl,h⟩
 ·have hi:=FLT.out i rfl;have hP:P=cs.set i ⟨k,kd,y,n,e,tx,o⟩:=(by have:=PX.out; dsimp only at this; rwa [if_neg hk1] at this);obtain ⟨rfl,h0⟩ | ⟨g,c2,rfl⟩:=own_some OW.out
  ·rw [h0] at hi; exact absurd hi (by simp)
  simp only [Option.getD_some,Option.isSome_some,if_true] at FD;clear PX FLT;have a0:=K0.out.at_ 0 rfl;have a1:=K0.out.at_ 1 rfl;have a2:=K0.out.at_ 2 rfl;have a3:=K0.out.at_ 3 rfl;have a4:=K0.out.at_ 4 rfl;have a5:=K0.out.at_ 5 rfl;have a6:=K0.out.at_ 6 rfl;go_wp2_with fail
  refine (FD.out _ B0.out).mono ?_;rintro xx w3 ⟨rfl,hb⟩;clear a0 a1 a2 a3 a4 a5 a6;replace B0:=lh (q0a B0.out hb);replace K0:=lh (K0.out.keep hb);replace OW:=lh (own_belowB OW.out hb);clear hb FD;obtain ⟨cur,hbg,hblk,hsz,hnc,hcm,-⟩:=own_parts OW.out (by omega);have hlt7:i * 7+6 < cur.size:=(by omega);have hwg:w.heap.size≤g:=(by have:=HLT.out; omega);obtain ⟨u0,f0⟩:∃ u,w3.cell? ⟨g,i * 7,none⟩=some u:=⟨_,(hblk.cell _).trans (Array.getElem?_eq_getElem (by omega))⟩;obtain ⟨u1,f1⟩:∃ u,w3.cell? ⟨g,i * 7+1,none⟩=some u:=⟨_,(hblk.cell _).trans (Array.getElem?_eq_getElem (by omega))⟩;obtain ⟨u2,f2⟩:∃ u,w3.cell? ⟨g,i * 7+2,none⟩=some u:=⟨_,(hblk.cell _).trans (Array.getElem?_eq_getElem (by omega))⟩;obtain ⟨u3,f3⟩:∃ u,w3.cell? ⟨g,i * 7+3,none⟩=some u:=⟨_,(hblk.cell _).trans (Array.getElem?_eq_getElem (by omega))⟩;obtain ⟨u4,f4⟩:∃ u,w3.cell? ⟨g,i * 7+4,none⟩=some u:=⟨_,(hblk.cell _).trans (Array.getElem?_eq_getElem (by omega))⟩;obtain ⟨u5,f5⟩:∃ u,w3.cell? ⟨g,i * 7+5,none⟩=some u:=⟨_,(hblk.cell _).trans (Array.getElem?_eq_getElem (by omega))⟩;obtain ⟨u6,f6⟩:∃ u,w3.cell? ⟨g,i * 7+6,none⟩=some u:=⟨_,(hblk.cell _).trans (Array.getElem?_eq_getElem (by omega))⟩;have g0:=BlkV.frozen hblk (i * 7);have g1:=BlkV.frozen hblk (i * 7+1);have g2:=BlkV.frozen hblk (i * 7+2);have g3:=BlkV.frozen hblk (i * 7+3);have g4:=BlkV.frozen hblk (i * 7+4);have g5:=BlkV.frozen hblk (i * 7+5);have g6:=BlkV.frozen hblk (i * 7+6);have O8:=lh (own_set OW.out (by omega) i hi k tx o kd y n e);have B8:Hid (Below w.heap.size w ((((((((w3).setCell ⟨g,i * 7,none⟩ (.string ⟨k.toArray⟩)).setCell ⟨g,i * 7+1,none⟩ (.int .u8 kd)).setCell ⟨g,i * 7+2,none⟩ (.bool y)).setCell ⟨g,i * 7+3,none⟩ (.int .i64 n)).setCell ⟨g,i * 7+4,none⟩ (.int .i64 e)).setCell ⟨g,i * 7+5,none⟩ (.string ⟨tx.toArray⟩)).setCell ⟨g,i * 7+6,none⟩ (.string ⟨o.toArray⟩))):=((((((B0.out.setCell (p:=⟨g,i * 7,none⟩) hwg (.string ⟨k.toArray⟩)).setCell (p:=⟨g,i * 7+1,none⟩) hwg (.int .u8 kd)).setCell (p:=⟨g,i * 7+2,none⟩) hwg (.bool y)).setCell (p:=⟨g,i * 7+3,none⟩) hwg (.int .i64 n)).setCell (p:=⟨g,i * 7+4,none⟩) hwg (.int .i64 e)).setCell (p:=⟨g,i * 7+5,none⟩) hwg (.string ⟨tx.toArray⟩)).setCell (p:=⟨g,i * 7+6,none⟩) hwg (.string ⟨o.toArray⟩);have hPl:P.length=cs.length:=(by rw [hP,List.length_set]);rw [← hP] at O8;clear hP;have t1:((kd:Int) != 1)=true:=(by simp; omega);have tk:decide ((i:Int) < (cs.length:Int))=true:=decide_eq_true (by omega);have tn:decide ((0:Int)≤(i:Int))=true:=decide_eq_true (by omega);have t2:decide ((200:Int) < (cs.length:Int))=false:=decide_eq_false (by omega);clear hblk hlt7 hsz hnc hcm OW;have a0:=K0.out.at_ 0 rfl;have a1:=K0.out.at_ 1 rfl;have a2:=K0.out.at_ 2 rfl;have a3:=K0.out.at_ 3 rfl;have a4:=K0.out.at_ 4 rfl;have a5:=K0.out.at_ 5 rfl;have a6:=K0.out.at_ 6 rfl;go_wp2_with fail
  go_ret2
  rw [← hPl] at O8 ⊢;obtain ⟨A9,c9,e9,s9⟩:=own_slg O8.out AL.out (by omega);rw [e9];exact ⟨⟨A9,c9,rfl,s9⟩,B8.out⟩
 ·have hPl:P.length=cs.length+1:=(by rw [hP,List.length_append]; rfl);have HP2:Hid (P.flatMap CD.cells=cs.flatMap CD.cells ++ [(⟨k,kd,y,n,e,tx,o⟩:CD)].flatMap CD.cells):=(by rw [hP]; exact List.flatMap_append);clear hP PX FLT;have a0:=K0.out.at_ 0 rfl;have a1:=K0.out.at_ 1 rfl;have a2:=K0.out.at_ 2 rfl;have a3:=K0.out.at_ 3 rfl;have a4:=K0.out.at_ 4 rfl;have a5:=K0.out.at_ 5 rfl;have a6:=K0.out.at_ 6 rfl;go_wp2_with fail
  refine (FD.out _ B0.out).mono ?_;rintro xx w3 ⟨rfl,hb⟩;clear a0 a1 a2 a3 a4 a5 a6;replace B0:=lh (q0a B0.out hb);replace K0:=lh (K0.out.keep hb);replace OW:=lh (own_belowB OW.out hb);have HLT3:=lh (Nat.le_trans (Nat.le_trans (Nat.le_refl _) HW2.out) hb.size);clear hb FD;have hk:BlkV (w3.alloc (.cells #[.string ⟨k.toArray⟩,.int .u8 kd,.bool y,.int .i64 n,.int .i64 e,.string ⟨tx.toArray⟩,.string ⟨o.toArray⟩] 31)) w3.heap.size 31 #[.string ⟨k.toArray⟩,.int .u8 kd,.bool y,.int .i64 n,.int .i64 e,.string ⟨tx.toArray⟩,.string ⟨o.toArray⟩]:=BlkV.fresh rfl _ _;have hb:=blw1 w3 (.cells #[.string ⟨k.toArray⟩,.int .u8 kd,.bool y,.int .i64 n,.int .i64 e,.string ⟨tx.toArray⟩,.string ⟨o.toArray⟩] 31);obtain ⟨v',w4,hr,how,hbb⟩:=app_cardsR 22 w1.heap.size (w3.heap.size+1) (some ⟨w3.heap.size,0,none⟩) [(⟨k,kd,y,n,e,tx,o⟩:CD)] 1 v cs.length (cs.flatMap CD.cells) (w3.alloc (.cells #[.string ⟨k.toArray⟩,.int .u8 kd,.bool y,.int .i64 n,.int .i64 e,.string ⟨tx.toArray⟩,.string ⟨o.toArray⟩] 31)) (RdV.of_blk (vs:=[(⟨k,kd,y,n,e,tx,o⟩:CD)].flatMap CD.cells) hk) (own_belowB OW.out hb) (by simp; omega) (Nat.le_trans HLT3.out hb.size);rw [← HP2.out] at how;have how2:w4.ownsRow w1.heap.size 31 7 v' P.length (P.flatMap CD.cells):=(by rw [hPl]; exact how);obtain ⟨A9,c9,rfl,s9⟩:=own_slg how2 AL.out (by omega);have SL:=lh s9;have B4:=lh ((q0a B0.out hb).trans (hbb _ (by have:=HLT.out; omega)));clear how how2 s9 hbb hk HP2 OW;have t2:decide ((200:Int) < (P.length:Int))=false:=decide_eq_false (by omega);clear hb hPl LX;have a0:=K0.out.at_ 0 rfl;have a1:=K0.out.at_ 1 rfl;have a2:=K0.out.at_ 2 rfl;have a3:=K0.out.at_ 3 rfl;have a4:=K0.out.at_ 4 rfl;have a5:=K0.out.at_ 5 rfl;have a6:=K0.out.at_ 6 rfl;obtain rfl | rfl:=hz
  ·simp only [Option.getD_none,Option.isSome_none,Bool.false_eq_true,if_false];go_wp2_with (at_builtin; refine wpList_plain rfl fun _ hK=>wp_append_at (.tmp 35) (.tmp 37) 22 rfl _ _ _ _ (by kernel_rfl) (by kernel_rfl) hr (hK _ _ ?_))
   go_ret2
   exact ⟨⟨A9,c9,rfl,SL.out⟩,B4.out⟩
  ·cases fi with
   | none=>
    simp only [Option.getD_none,Option.isSome_none,Bool.false_eq_true,if_false];go_wp2_with (at_builtin; refine wpList_plain rfl fun _ hK=>wp_append_at (.tmp 35) (.tmp 37) 22 rfl _ _ _ _ (by kernel_rfl) (by kernel_rfl) hr (hK _ _ ?_))
    go_ret2
    exact ⟨⟨A9,c9,rfl,SL.out⟩,B4.out⟩
   | some i=>
    simp only [Option.getD_some,Option.isSome_some,if_true];go_wp2_with (at_builtin; refine wpList_plain rfl fun _ hK=>wp_append_at (.tmp 35) (.tmp 37) 22 rfl _ _ _ _ (by kernel_rfl) (by kernel_rfl) hr (hK _ _ ?_))
    go_ret2
    exact ⟨⟨A9,c9,rfl,SL.out⟩,B4.out⟩
theorem fndK_map (key:List UInt8) (l:List CD):fndK key l=(l.map CD.k).findIdx? (fun x=>x == key):=by
 unfold fndK;rw [List.findIdx?_map];rfl
theorem fnd_mem {l:List CD} {x:CD} (h:x∈l):(fndK x.k l).isSome=true:=by
 unfold fndK;rw [List.findIdx?_isSome,List.any_eq_true];exact ⟨x,h,by simp⟩
theorem fnd_app {l m:List CD} {key:List UInt8} {i:Nat} (h:fndK key l=some i):fndK key (l ++ m)=some i:=by
 unfold fndK at h ⊢;rw [List.findIdx?_append,h];rfl
theorem set_keys {l:List CD} {c:CD} {i:Nat} (h:fndK c.k l=some i):(l.set i c).map CD.k=l.map CD.k:=by
 obtain ⟨hi,hk⟩:=fnd_lt h;rw [List.map_set];apply List.ext_getElem?
 intro j;rw [List.getElem?_set];split
 ·next e=>
  subst e;rw [List.length_map,if_pos hi,List.getElem?_map,List.getElem?_eq_getElem hi];simp only [Option.map_some,Option.some.injEq];exact (beq_iff_eq.1 hk).symm
 ·rfl
theorem put_find (l:List CD) (c x:CD) (h:x∈l):∃ a,fndK x.k l=some a∧fndK x.k (putS l c)=some a:=by
 obtain ⟨a,ha⟩:=Option.isSome_iff_exists.1 (fnd_mem h);refine ⟨a,ha,?_⟩;unfold putS;split
 ·next i hi=>
  split
  ·exact fnd_app ha
  ·rw [fndK_map,set_keys hi,← fndK_map]; exact ha
 ·exact fnd_app ha
theorem put_note (l:List CD) (c:CD) (h:c.kd=1):putS l c=l ++ [c]:=by
 unfold putS;split
 ·rw [if_pos h]
 ·rfl
theorem put_hit (l:List CD) (c:CD) (h:c.kd≠1):∃ i,fndK c.k (putS l c)=some i∧(∃ hi:i < (putS l c).length,(putS l c)[i]=c)∧putS (putS l c) c=putS l c:=by
 have key:∀ (m:List CD) (i:Nat) (hm:fndK c.k m=some i) (hi:i < m.length),m[i]=c→putS m c=m:=fun m i hm hi he=>by
  unfold putS;rw [hm];dsimp only;rw [if_neg h];conv=>lhs; rw [← he]
  exact List.set_getElem_self hi
 have hp:∃ i,fndK c.k (putS l c)=some i∧∃ hi:i < (putS l c).length,(putS l c)[i]=c:=by
  unfold putS
  cases hf:fndK c.k l with
  | some i=>
   dsimp only;rw [if_neg h];refine ⟨i,by rw [fndK_map,set_keys hf,← fndK_map]; exact hf,?_⟩;obtain ⟨hi,-⟩:=fnd_lt hf;exact ⟨by rw [List.length_set]; exact hi,by simp⟩
  | none=>
   dsimp only;refine ⟨l.length,?_,by simp,by simp⟩;unfold fndK at hf ⊢;rw [List.findIdx?_append,hf];simp
 obtain ⟨i,h1,hi,h2⟩:=hp;exact ⟨i,h1,⟨hi,h2⟩,key _ i h1 hi h2⟩
theorem chk_o {c:CD} (h:chkC c=true):c.o.length≤70 ∧ -9223372036854775808 < c.e:=by
 by_cases h1:c.kd=1
 ·unfold chkC chkC1 q0g at h;simp only [Bool.and_eq_true,Bool.not_eq_true',Bool.or_eq_false_iff] at h;obtain ⟨⟨⟨⟨-,⟨⟨⟨-,h3⟩,-⟩,h5⟩⟩,-⟩,-⟩,-⟩:=h;rw [h1] at h3 h5;simp at h3 h5;rw [h3,h5];decide
 ·obtain ⟨p1,-,-,-,-,-,-,-,-,-,-⟩:=chk_parts h h1;unfold chkC at h;rw [if_neg h1] at h;simp only [Bool.and_eq_true] at h;obtain ⟨-,⟨-,h4⟩,h5⟩:=h;unfold chkC4 at h5;constructor
  ·by_cases ho:c.o=[]
   ·rw [ho]; decide
   ·have hb:(q0f c).length≤70:=by
     have e1:(!(c.o == []))=true:=(by simp [ho]);rw [e1,Bool.or_true,Bool.and_true] at h5;simpa using h5
    unfold q0f at hb;rw [if_neg ho,List.length_append] at hb;simp only [List.length_cons] at hb;omega
  ·by_cases hk:c.kd=4
   ·rw [if_pos hk] at h4;unfold realB at h4;simp only [Bool.and_eq_true,decide_eq_true_eq] at h4;omega
   ·unfold q0g at p1;simp only [Bool.or_eq_false_iff,Bool.and_eq_false_iff] at p1;have h3:=p1.1.1.2;simp [hk] at h3;omega
theorem rsame8_q (cs:List CD) (A1 A2:Option Addr) (B1 B2 c1 c2:Nat) (w:World) (h1:SlG w B1 A1 cs c1) (h2:SlG w B2 A2 cs c2) :
  Calls Tryz.prog 12 #[.slice A1 cs.length c1,.slice A2 cs.length c2] w fun e w'=>e=.returned (.bool true)∧∃ m,w'=w.drewN m:=by
 have S1:=lh h1;have S2:=lh h2;have hl:=h1.len;clear h1 h2;go_enter Tryz.func12,Tryz.ntmps12
 go_wp2
 go_loopw [5] (fun s5 wz=>∃ i:Nat,i≤cs.length∧s5=.int .i64 i∧∃ m,wz=w.drewN m) (fun v _=>cs.length - (RowKit.intOf v).toNat)
 case atStart=>exact ⟨0,Nat.zero_le _,rfl,0,rfl⟩
 case round=>
  obtain ⟨i,hi,rfl,m,hm⟩:=hrel;have B0:Hid (Below w.heap.size w wr):=(by rw [hm]; exact below_drewN (Below.refl _ _) m);have HM:=lh hm;clear hm;by_cases hlt:i < cs.length
  ·have tk:decide ((i:Int) < (cs.length:Int))=true:=decide_eq_true (by omega);have tn:decide ((0:Int)≤(i:Int))=true:=decide_eq_true (by omega);have i2:IntKind.i64.wrap ((i:Int)+1)=(i:Int)+1:=IntWalk.i64_in _ (by omega);have SA:=lh (S1.out.below B0.out);have SB:=lh (S2.out.below B0.out);obtain ⟨b,q,rfl,-,q0,q1,q2,q3,q4,q5,q6,-⟩:=SA.out.at_ hlt;obtain ⟨b',q',rfl,-,p0,p1,p2,p3,p4,p5,p6,-⟩:=SB.out.at_ hlt;clear SA SB;generalize cs[i]=x at *;go_wp2
   go_quiet (fail)
   go_wp2
   go_roundw
   case rel=>exact ⟨i+1,by omega,by go_num,m+nq,by rw [HM.out,World.drewN_drewN]⟩
   case measure=>simp [RowKit.intOf]; omega
  ·have tk:decide ((i:Int) < (cs.length:Int))=false:=decide_eq_false (by omega);go_wp2
   go_ret
   exact ⟨rfl,m,HM.out⟩
theorem cardPuts_walk (cs:List CD) (A:Option Addr) (B c0:Nat) (c:CD) (w:World) (hs:SlY w B A cs c0) (hc:OkC c) (ho:c.o.length≤140737488351232) (ht:c.t.length≤140737488355328) (hE:EnvP w) :
  Calls Tryz.prog 4 #[.slice A cs.length c0,.agg #[.string ⟨c.k.toArray⟩,.int .u8 c.kd,.bool c.y,.int .i64 c.n,.int .i64 c.e,.string ⟨c.t.toArray⟩,.string ⟨c.o.toArray⟩]] w fun e w'=>e=.returned (.bool true)∧Below w.heap.size w w':=by
 have AL:=lh (fun W (h:Below w.heap.size w W)=>alive8_any W (hE.keep h));have GR:=lh (fun W (h:Below w.heap.size w W)=>rgreat8_any cs A B c0 W (hs.below h));have CK:=lh (fun W=>rcheck8_big c hc ho ht W);have B0:Hid (Below w.heap.size w (w.alloc (.cells #[.string ⟨c.k.toArray⟩,.int .u8 c.kd,.bool c.y,.int .i64 c.n,.int .i64 c.e,.string ⟨c.t.toArray⟩,.string ⟨c.o.toArray⟩] 31))):=blw1 _ _;have K0:Hid (BlkV (w.alloc (.cells #[.string ⟨c.k.toArray⟩,.int .u8 c.kd,.bool c.y,.int .i64 c.n,.int .i64 c.e,.string ⟨c.t.toArray⟩,.string ⟨c.o.toArray⟩] 31)) w.heap.size 31 #[.string ⟨c.k.toArray⟩,.int .u8 c.kd,.bool c.y,.int .i64 c.n,.int .i64 c.e,.string ⟨c.t.toArray⟩,.string ⟨c.o.toArray⟩]):=BlkV.fresh rfl _ _;by_cases hg:greatK cs=true
 ·rw [hg] at GR;clear hs hc ho ht hE hg CK;obtain ⟨k,kd,y,n,e,tx,o⟩:=c;dsimp only at *;go_enter Tryz.func4,Tryz.ntmps4
  go_wp2_with fail
  generalize w.alloc (.cells #[.string ⟨k.toArray⟩,.int .u8 kd,.bool y,.int .i64 n,.int .i64 e,.string ⟨tx.toArray⟩,.string ⟨o.toArray⟩] 31)=w0 at *;refine (AL.out _ B0.out).mono ?_;rintro xx w1 ⟨rfl,hb⟩;replace B0:=lh (q0a B0.out hb);replace K0:=lh (K0.out.keep hb);clear hb AL;have a0:=K0.out.at_ 0 rfl;have a1:=K0.out.at_ 1 rfl;have a2:=K0.out.at_ 2 rfl;have a3:=K0.out.at_ 3 rfl;have a4:=K0.out.at_ 4 rfl;have a5:=K0.out.at_ 5 rfl;have a6:=K0.out.at_ 6 rfl;go_wp2_with fail
  refine (GR.out _ B0.out).mono ?_;rintro xx w2 ⟨rfl,hb⟩;replace B0:=lh (q0a B0.out hb);replace K0:=lh (K0.out.keep hb);clear a0 a1 a2 a3 a4 a5 a6;clear hb GR;go_wp2_with fail
  go_ret
  exact ⟨rfl,B0.out⟩
 have hg':greatK cs=false:=(by simpa using hg);rw [hg'] at GR;by_cases h30:30 < cs.length
 ·have t30:decide ((30:Int) < (cs.length:Int))=true:=decide_eq_true (by omega);clear hs hc ho ht hE hg CK;obtain ⟨k,kd,y,n,e,tx,o⟩:=c;dsimp only at *;go_enter Tryz.func4,Tryz.ntmps4
  go_wp2_with fail
  generalize w.alloc (.cells #[.string ⟨k.toArray⟩,.int .u8 kd,.bool y,.int .i64 n,.int .i64 e,.string ⟨tx.toArray⟩,.string ⟨o.toArray⟩] 31)=w0 at *;refine (AL.out _ B0.out).mono ?_;rintro xx w1 ⟨rfl,hb⟩;replace B0:=lh (q0a B0.out hb);replace K0:=lh (K0.out.keep hb);clear hb AL;have a0:=K0.out.at_ 0 rfl;have a1:=K0.out.at_ 1 rfl;have a2:=K0.out.at_ 2 rfl;have a3:=K0.out.at_ 3 rfl;have a4:=K0.out.at_ 4 rfl;have a5:=K0.out.at_ 5 rfl;have a6:=K0.out.at_ 6 rfl;go_wp2_with fail
  refine (GR.out _ B0.out).mono ?_;rintro xx w2 ⟨rfl,hb⟩;replace B0:=lh (q0a B0.out hb);replace K0:=lh (K0.out.keep hb);clear a0 a1 a2 a3 a4 a5 a6;clear hb GR;go_wp2_with fail
  go_ret
  exact ⟨rfl,B0.out⟩
 have t30:decide ((30:Int) < (cs.length:Int))=false:=decide_eq_false (by omega);by_cases hk:chkC c=true
 ·have SG:=lh (hs.g hg');have hco:=chk_o hk;have OKK:Hid (OkK c):=⟨hc,Nat.le_trans hco.1 (by decide),ht,hco.2⟩;have PU:=lh (fun W (h:Below w.heap.size w W)=>put_ok cs A B c0 c W (SG.out.below h) (by omega) OKK.out hk (hE.env.keep h));have PU2:=lh (fun (l:List CD) (A':Option Addr) (B' c':Nat) W (h:Below w.heap.size w W) (hl:l.length≤199) (hS:SlG W B' A' l c')=>put_ok l A' B' c' c W hS hl OKK.out hk (hE.env.keep h));have PF:=lh (fun x h=>put_find cs c x h);have PN:=lh (put_note cs c);have PH:=lh (put_hit cs c);have LP:=putS_len cs c;have hkd:=hc.kd;rw [if_pos hk] at CK;clear hs hc ho ht hE hg hg' hk hco OKK;have FP:=lh (fun (l:List CD) (key:List UInt8) (A':Option Addr) (B' c' a:Nat) W (hS:SlG W B' A' l c') (ha:fndK key l=some a)=>by have h:=find_any l key A' B' c' W hS; rw [ha] at h; exact h);simp only [Option.getD_some,Option.isSome_some,if_true] at FP;generalize hPg:putS cs c=P at *;clear hPg;obtain ⟨k,kd,y,n,e,tx,o⟩:=c;dsimp only at *;go_enter Tryz.func4,Tryz.ntmps4
  go_wp2_with fail
  generalize w.alloc (.cells #[.string ⟨k.toArray⟩,.int .u8 kd,.bool y,.int .i64 n,.int .i64 e,.string ⟨tx.toArray⟩,.string ⟨o.toArray⟩] 31)=w0 at *;refine (AL.out _ B0.out).mono ?_;rintro xx w1 ⟨rfl,hb⟩;replace B0:=lh (q0a B0.out hb);replace K0:=lh (K0.out.keep hb);clear hb AL;have a0:=K0.out.at_ 0 rfl;have a1:=K0.out.at_ 1 rfl;have a2:=K0.out.at_ 2 rfl;have a3:=K0.out.at_ 3 rfl;have a4:=K0.out.at_ 4 rfl;have a5:=K0.out.at_ 5 rfl;have a6:=K0.out.at_ 6 rfl;go_wp2_with fail
  refine (GR.out _ B0.out).mono ?_;rintro xx w2 ⟨rfl,hb⟩;replace B0:=lh (q0a B0.out hb);replace K0:=lh (K0.out.keep hb);clear a0 a1 a2 a3 a4 a5 a6;clear hb GR;have a0:=K0.out.at_ 0 rfl;have a1:=K0.out.at_ 1 rfl;have a2:=K0.out.at_ 2 rfl;have a3:=K0.out.at_ 3 rfl;have a4:=K0.out.at_ 4 rfl;have a5:=K0.out.at_ 5 rfl;have a6:=K0.out.at_ 6 rfl;go_wp2_with fail
  refine (CK.out _).mono ?_;rintro xx w3 ⟨rfl,hb⟩;replace B0:=lh (q0a B0.out hb);replace K0:=lh (K0.out.keep hb);clear a0 a1 a2 a3 a4 a5 a6;clear hb CK;have a0:=K0.out.at_ 0 rfl;have a1:=K0.out.at_ 1 rfl;have a2:=K0.out.at_ 2 rfl;have a3:=K0.out.at_ 3 rfl;have a4:=K0.out.at_ 4 rfl;have a5:=K0.out.at_ 5 rfl;have a6:=K0.out.at_ 6 rfl;go_wp2_with fail
  refine (PU.out _ B0.out).mono ?_;rintro xx w4 ⟨⟨A',c',rfl,hS⟩,hb⟩;replace B0:=lh (q0a B0.out hb);replace K0:=lh (K0.out.keep hb);clear a0 a1 a2 a3 a4 a5 a6;have SP:=lh hS;clear hb hS PU;have X0:Hid (Below w4.heap.size w4 w4):=Below.refl _ _;by_cases h1:kd=1
  ·have HP:=lh (PN.out h1);clear PN PH PU2;have t1:((kd:Int) == 1)=true:=(by simp; omega);have H1:=lh h1;clear h1;go_wp2
   go_loopw [8] (fun s8 wx=>∃ i:Nat,i≤cs.length∧s8=.int .i64 i∧Below w4.heap.size w4 wx) (fun v _=>cs.length - (RowKit.intOf v).toNat)
   case atStart=>exact ⟨0,Nat.zero_le _,rfl,X0.out⟩
   case round=>
    obtain ⟨i,hi,rfl,hx⟩:=hrel;have XR:=lh hx;clear hx X0;by_cases hlt:i < cs.length
    ·have tk:decide ((i:Int) < (cs.length:Int))=true:=decide_eq_true (by omega);have tn:decide ((0:Int)≤(i:Int))=true:=decide_eq_true (by omega);have S1:=lh (SG.out.below (q0a B0.out XR.out));obtain ⟨a,ha1,ha2⟩:=PF.out _ (List.getElem_mem hlt);obtain ⟨b,q,hA,-,q0,-⟩:=S1.out.at_ hlt;subst hA;have F1:=lh (fun W (h:Below w4.heap.size w4 W)=>FP.out cs _ _ _ _ a W (SG.out.below (q0a B0.out h)) ha1);have F2:=lh (fun W (h:Below w4.heap.size w4 W)=>FP.out P _ _ _ _ a W (SP.out.below h) ha2);clear ha1 ha2 PF S1;generalize cs[i].k=key at *;have HQ:=lh q0;go_wp2_with fail
     refine (F1.out _ XR.out).mono ?_;rintro xx w5 ⟨rfl,hb⟩;have q1:=q0b hb HQ.out;replace XR:=lh (q0a XR.out hb);clear hb q0 F1;go_wp2_with fail
     refine (F2.out _ XR.out).mono ?_;rintro xx w6 ⟨rfl,hb⟩;replace XR:=lh (q0a XR.out hb);clear hb q1 F2 HQ;go_wp2_with fail
     go_roundw
     case rel=>exact ⟨i+1,by omega,by go_num,XR.out⟩
     case measure=>simp [RowKit.intOf]; omega
    ·have tk:decide ((i:Int) < (cs.length:Int))=false:=decide_eq_false (by omega);clear PF hi;replace B0:=lh (q0a B0.out XR.out);replace K0:=lh (K0.out.keep XR.out);replace SP:=lh (SP.out.below XR.out);clear XR;have a0:=K0.out.at_ 0 rfl;have a1:=K0.out.at_ 1 rfl;have a2:=K0.out.at_ 2 rfl;have a3:=K0.out.at_ 3 rfl;have a4:=K0.out.at_ 4 rfl;have a5:=K0.out.at_ 5 rfl;have a6:=K0.out.at_ 6 rfl;clear FP SG;have hP:=HP.out;clear HP;have hlen:P.length=cs.length+1:=(by rw [hP,List.length_append]; rfl);have i2:IntKind.i64.wrap ((cs.length:Int)+1)=(cs.length:Int)+1:=IntWalk.i64_in _ (by omega);have tn:decide ((0:Int)≤(cs.length:Int))=true:=decide_eq_true (by omega);have tl:decide ((cs.length:Int) < (cs.length:Int)+1)=true:=decide_eq_true (by omega);have tl2:decide (cs.length < cs.length+1)=true:=decide_eq_true (by omega);obtain ⟨b,q,hA,-,q0,q1,q2,q3,q4,q5,q6,-⟩:=SP.out.at_ (k:=cs.length) (by omega);have hg:P[cs.length]'(by omega)=⟨k,kd,y,n,e,tx,o⟩:=(by subst hP; simp);rw [hg] at q0 q1 q2 q3 q4 q5 q6;dsimp only at q0 q1 q2 q3 q4 q5 q6;subst hA;clear SP hg hP LP;rw [hlen];clear hlen;go_wp2_with fail
     go_quiet (fail)
     go_wp2
     go_ret
     exact ⟨rfl,below_drewN B0.out nq⟩
  ·have hP:=PH.out h1;clear PN PH;obtain ⟨j,hj1,⟨hj2,hj3⟩,hj4⟩:=hP;have HJ:=lh hj4;have HG:=lh hj3;have HF:=lh hj1;clear hj4 hj3 hj1;have t1:((kd:Int) == 1)=false:=beq_eq_false_iff_ne.2 (by omega);go_wp2
   go_loopw [8] (fun s8 wx=>∃ i:Nat,i≤cs.length∧s8=.int .i64 i∧Below w4.heap.size w4 wx) (fun v _=>cs.length - (RowKit.intOf v).toNat)
   case atStart=>exact ⟨0,Nat.zero_le _,rfl,X0.out⟩
   case round=>
    obtain ⟨i,hi,rfl,hx⟩:=hrel;have XR:=lh hx;clear hx X0;by_cases hlt:i < cs.length
    ·have tk:decide ((i:Int) < (cs.length:Int))=true:=decide_eq_true (by omega);have tn:decide ((0:Int)≤(i:Int))=true:=decide_eq_true (by omega);have S1:=lh (SG.out.below (q0a B0.out XR.out));obtain ⟨a,ha1,ha2⟩:=PF.out _ (List.getElem_mem hlt);obtain ⟨b,q,hA,-,q0,-⟩:=S1.out.at_ hlt;subst hA;have F1:=lh (fun W (h:Below w4.heap.size w4 W)=>FP.out cs _ _ _ _ a W (SG.out.below (q0a B0.out h)) ha1);have F2:=lh (fun W (h:Below w4.heap.size w4 W)=>FP.out P _ _ _ _ a W (SP.out.below h) ha2);clear ha1 ha2 PF S1;generalize cs[i].k=key at *;have HQ:=lh q0;go_wp2_with fail
     refine (F1.out _ XR.out).mono ?_;rintro xx w5 ⟨rfl,hb⟩;have q1:=q0b hb HQ.out;replace XR:=lh (q0a XR.out hb);clear hb q0 F1;go_wp2_with fail
     refine (F2.out _ XR.out).mono ?_;rintro xx w6 ⟨rfl,hb⟩;replace XR:=lh (q0a XR.out hb);clear hb q1 F2 HQ;go_wp2_with fail
     go_roundw
     case rel=>exact ⟨i+1,by omega,by go_num,XR.out⟩
     case measure=>simp [RowKit.intOf]; omega
    ·have tk:decide ((i:Int) < (cs.length:Int))=false:=decide_eq_false (by omega);clear PF hi;replace B0:=lh (q0a B0.out XR.out);replace K0:=lh (K0.out.keep XR.out);replace SP:=lh (SP.out.below XR.out);clear XR;have a0:=K0.out.at_ 0 rfl;have a1:=K0.out.at_ 1 rfl;have a2:=K0.out.at_ 2 rfl;have a3:=K0.out.at_ 3 rfl;have a4:=K0.out.at_ 4 rfl;have a5:=K0.out.at_ 5 rfl;have a6:=K0.out.at_ 6 rfl;go_wp2_with fail
     refine (FP.out P k A' _ c' j wr SP.out HF.out).mono ?_;rintro xx w5 ⟨rfl,hb⟩;replace B0:=lh (q0a B0.out hb);replace K0:=lh (K0.out.keep hb);replace SP:=lh (SP.out.below hb);clear a0 a1 a2 a3 a4 a5 a6;clear hb FP;have a0:=K0.out.at_ 0 rfl;have a1:=K0.out.at_ 1 rfl;have a2:=K0.out.at_ 2 rfl;have a3:=K0.out.at_ 3 rfl;have a4:=K0.out.at_ 4 rfl;have a5:=K0.out.at_ 5 rfl;have a6:=K0.out.at_ 6 rfl;go_wp2_with fail
     refine (PU2.out P A' _ c' _ B0.out (by omega) SP.out).mono ?_;rw [HJ.out];rintro xx w6 ⟨⟨A3,c3,rfl,hS3⟩,hb⟩;replace B0:=lh (q0a B0.out hb);replace K0:=lh (K0.out.keep hb);replace SP:=lh (SP.out.below hb);have S3:=lh hS3;clear a0 a1 a2 a3 a4 a5 a6;clear hb PU2 hS3;have a0:=K0.out.at_ 0 rfl;have a1:=K0.out.at_ 1 rfl;have a2:=K0.out.at_ 2 rfl;have a3:=K0.out.at_ 3 rfl;have a4:=K0.out.at_ 4 rfl;have a5:=K0.out.at_ 5 rfl;have a6:=K0.out.at_ 6 rfl;have tn:decide ((0:Int)≤(j:Int))=true:=decide_eq_true (by omega);have tl:decide ((j:Int) < (P.length:Int))=true:=decide_eq_true (by omega);have tl':decide (j < P.length)=true:=decide_eq_true (by omega);obtain ⟨b,q,hA,-,q0,q1,q2,q3,q4,q5,q6,-⟩:=SP.out.at_ (k:=j) hj2;rw [HG.out] at q0 q1 q2 q3 q4 q5 q6;dsimp only at q0 q1 q2 q3 q4 q5 q6;subst hA;have SM:=lh (fun m=>rsame8_q P _ A3 _ _ c' c3 (w6.drewN m) (SP.out.below (below_drewN (Below.refl _ _) m)) (S3.out.below (below_drewN (Below.refl _ _) m)));clear SP S3 HG HF HJ;go_wp2_with fail
     go_quiet ((go_at_call 12; refine Calls.quiet_of (SM.out _)))
     go_wp2
     go_ret
     exact ⟨rfl,below_drewN B0.out nq⟩
 ·rw [if_neg hk] at CK;clear hs hc ho ht hE hg hg' hk;obtain ⟨k,kd,y,n,e,tx,o⟩:=c;dsimp only at *;go_enter Tryz.func4,Tryz.ntmps4
  go_wp2_with fail
  generalize w.alloc (.cells #[.string ⟨k.toArray⟩,.int .u8 kd,.bool y,.int .i64 n,.int .i64 e,.string ⟨tx.toArray⟩,.string ⟨o.toArray⟩] 31)=w0 at *;refine (AL.out _ B0.out).mono ?_;rintro xx w1 ⟨rfl,hb⟩;replace B0:=lh (q0a B0.out hb);replace K0:=lh (K0.out.keep hb);clear hb AL;have a0:=K0.out.at_ 0 rfl;have a1:=K0.out.at_ 1 rfl;have a2:=K0.out.at_ 2 rfl;have a3:=K0.out.at_ 3 rfl;have a4:=K0.out.at_ 4 rfl;have a5:=K0.out.at_ 5 rfl;have a6:=K0.out.at_ 6 rfl;go_wp2_with fail
  refine (GR.out _ B0.out).mono ?_;rintro xx w2 ⟨rfl,hb⟩;replace B0:=lh (q0a B0.out hb);replace K0:=lh (K0.out.keep hb);clear a0 a1 a2 a3 a4 a5 a6;clear hb GR;have a0:=K0.out.at_ 0 rfl;have a1:=K0.out.at_ 1 rfl;have a2:=K0.out.at_ 2 rfl;have a3:=K0.out.at_ 3 rfl;have a4:=K0.out.at_ 4 rfl;have a5:=K0.out.at_ 5 rfl;have a6:=K0.out.at_ 6 rfl;go_wp2_with fail
  refine (CK.out _).mono ?_;rintro xx w3 ⟨rfl,hb⟩;replace B0:=lh (q0a B0.out hb);replace K0:=lh (K0.out.keep hb);clear a0 a1 a2 a3 a4 a5 a6;clear hb CK;go_wp2_with fail
  go_ret
  exact ⟨rfl,B0.out⟩
end Go.Proofs.YtcpofeehpijbcaaGreatDoor
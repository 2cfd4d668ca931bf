import Derived.Test.YtcpofeehpijbcaaGreatDoorPa6
import Derived.Test.YtcpofeehpijbcaaGreatDoorRfA
set_option maxHeartbeats 16000000
set_option maxRecDepth 100000
namespace Go.Proofs.YtcpofeehpijbcaaGreatDoor
open Lib renaming hid → lh
open Go.RowKit Go.Lib Go.Shelf
attribute [local go_sem ↓] Go.wp_at_zero Go.wp_at_succ
theorem BdC.setT {m:Nat} {c:CD} (h:BdC m c) (t:List UInt8) (ht:t.length≤m):BdC m (setT c t):=⟨h.kd,h.n1,h.n2,h.e1,h.e2,h.k,ht,h.o⟩
theorem contN_ok:∀ (f:Nat) (c:CD) (raw s:List UInt8) {M:Nat} {m:CD × List UInt8},contN f c raw s=some m→Lin s→BdC M c→raw.length+s.length≤M→M≤1000000→Lin m.2∧m.2.length≤s.length∧BdC M m.1
 | 0,c,raw,s,M,m,h,_,_,_,_=>by cases h
 | f+1,c,raw,s,M,m,h,hs,hc,hl,hM=>by
  rw [contN_s] at h;split at h
  ·next h1=>
   rw [Bool.and_eq_true] at h1;have hp:=pre_pos h1.2;have hm:=hs.m;have h80:80≤s.length:=(by omega);have hd:(s.drop 80).length+80=s.length:=(by rw [List.length_drop]; omega);split at h
   ·generalize hv:valS sCON ((s.take 80).drop 10)=v at h
    cases v with
    | none=>cases h
    | some q=>
     have hq:=(valS_bd (m:=70) hv (part_len s 80 10) (by decide) (by decide)).2;have ht:(raw.take (raw.length - 1) ++ q.2).length≤raw.length+70:=(by rw [List.length_append,List.length_take]; omega);have h2:=trimR_len (raw.take (raw.length - 1) ++ q.2) 32;dsimp only [conW] at h;split at h
     ·split at h
      ·have:=contN_ok f _ _ _ h (hs.drop h80) (hc.setT (trimRightB (raw.take (raw.length - 1) ++ q.2) 32) (by omega)) (by omega) hM;exact ⟨this.1,by omega,this.2.2⟩
      ·injection h with h
       subst h;exact ⟨hs.drop h80,by show (s.drop 80).length≤s.length; omega,hc.setT _ (by omega)⟩
     ·cases h
   ·cases h
  ·injection h with h
   subst h;exact ⟨hs,Nat.le_refl _,hc⟩
theorem readS_ok {s:List UInt8} {m:CD × List UInt8} (h:readS s=some m) (hs:Lin s) (h80:80≤s.length):Lin m.2∧m.2.length+80≤s.length∧BdC 1000000 m.1:=by
 have hl:=hs.l;have hd:(s.drop 80).length+80=s.length:=(by rw [List.length_drop]; omega);have hk:=trimR_len (s.take 8) 32;rw [List.length_take] at hk;rw [readS_eq] at h;split at h
 ·injection h with h
  subst h;have ht:=trimR_len ((s.take 80).drop 8) 32;have hp:=part_len s 80 8;exact ⟨hs.drop h80,by show (s.drop 80).length+80≤s.length; omega,by show 1≤6; decide,by show (-9223372036854775808:Int)≤0; decide,by show (0:Int)≤9223372036854775807; decide,by show (-1000000000000:Int)≤0; decide,by show (0:Int)≤1000000000000; decide,by show (trimRightB (s.take 8) 32).length≤1000000; omega,by show (trimRightB ((s.take 80).drop 8) 32).length≤1000000; omega,by show 0≤1000000; decide⟩
 ·split at h
  ·generalize hv:valS (trimRightB (s.take 8) 32) ((s.take 80).drop 10)=v at h
   cases v with
   | none=>cases h
   | some q=>
    have hq:=valS_bd (m:=70) hv (part_len s 80 10) (by omega) (by decide);have:=contN_ok _ _ _ _ h (hs.drop h80) (hq.1.mono (by decide:70≤1000000)) (by omega) (Nat.le_refl _);exact ⟨this.1,by omega,this.2.2⟩
  ·cases h
theorem BdC.okK {c:CD} (h:BdC 1000000 c):OkK c:=⟨⟨Nat.le_trans h.kd (by decide),h.n1,h.n2,by have:=h.e1; omega,by have:=h.e2; omega,Nat.le_trans h.k (by decide),Nat.le_trans h.t (by decide),Nat.le_trans h.o (by decide)⟩,Nat.le_trans h.o (by decide),Nat.le_trans h.t (by decide),by have:=h.e1; omega⟩
theorem prt_lin {s:List UInt8} (h:prt s=true) (hm:s.length % 80=0) (hl:s.length≤1000000):Lin s:=⟨hm,hl,fun b hb=>by
 have:=List.all_eq_true.1 h b hb;simp only [pch,Bool.and_eq_true,decide_eq_true_eq] at this;omega⟩
def parW (out:List CD) (f:Nat):Option (CD × List UInt8)→Option (List CD)
 | none=>none
 | some m=>if chkC m.1 then parN f (out ++ [m.1]) m.2 else none
theorem parN_s (f:Nat) (out:List CD) (s:List UInt8) (h:s≠[]):parN (f+1) out s=parW out f (readS s):=by
 rw [parN,if_neg h];cases readS s <;> rfl
theorem parN_0 (f:Nat) (out:List CD):parN (f+1) out []=some out:=rfl
def parE:Option (List CD)→List CD × Int
 | none=>([],12)
 | some l=>if 200 < l.length then ([],4) else (l,0)
theorem parS_eq (s:List UInt8):parS s=if s.length % 80=0∧prt s=true then parE (parN (s.length+1) [] s) else ([],12):=by
 unfold parS;cases parN (s.length+1) [] s <;> rfl
theorem own_slc {w:World} {base:Nat} {v:Value} {cs:List CD} (h:w.ownsRow base 31 7 v cs.length (cs.flatMap CD.cells)) (ha:∀ x∈cs,OkK x) (hl:cs.length≤1000000):∃ A c,v=.slice A cs.length c∧SlC w w.heap.size A cs c:=by
 rcases h.2 with ⟨rfl,h0⟩ | ⟨g,cap,cur,rfl,hb,hg,hnc,hcm,hsz,htk⟩
 ·have:cs=[]:=List.eq_nil_of_length_eq_zero h0;subst this;exact ⟨none,0,rfl,fun hp=>absurd hp (by simp),(fun x hx=>by cases hx),Nat.le_refl _,Nat.zero_le _⟩
 ·refine ⟨_,_,rfl,fun _=>⟨g,0,rfl,lt_of_block hg,fun i u hu=>?_⟩,ha,hnc,by omega⟩;have:=h.cells (g:=g) rfl i u hu;rw [add_at0] at this;rwa [Nat.zero_add]
theorem own_far {w:World} {base n:Nat} {e:TypeId} {size:Nat} {v:Value} {xs:List Value} (h:w.ownsRow base e size v n xs) {p:Addr} (hp:p.block < base) (u:Value):(w.setCell p u).ownsRow base e size v n xs:=by
 rcases h.2 with ⟨hv,h0⟩ | ⟨g,cap,cur,hv,hg,hh,hnc,hcap,hsz,htk⟩
 ·exact ⟨h.1,.inl ⟨hv,h0⟩⟩
 ·exact ⟨h.1,.inr ⟨g,cap,cur,hv,hg,(Below.heap_setCell w p u g (by omega)).trans hh,hnc,hcap,hsz,htk⟩⟩
theorem own_below {w w':World} {base n:Nat} {e:TypeId} {size:Nat} {v:Value} {xs:List Value} (h:w.ownsRow base e size v n xs) (hb:Below w.heap.size w w'):w'.ownsRow base e size v n xs:=by
 rcases h.2 with ⟨hv,h0⟩ | ⟨g,cap,cur,hv,hg,hh,hnc,hcap,hsz,htk⟩
 ·exact ⟨h.1,.inl ⟨hv,h0⟩⟩
 ·exact ⟨h.1,.inr ⟨g,cap,cur,hv,hg,(hb.block g (lt_of_block hh)).trans hh,hnc,hcap,hsz,htk⟩⟩
theorem parse_any (s:List UInt8) (hl:s.length≤1000000) (w:World) (hE:EnvP w) :
  Calls Tryz.prog 10 #[.string ⟨s.toArray⟩] w fun e w'=>(∃ A c,e=.returned (.tuple #[.slice A (parS s).1.length c,.int .i64 (parS s).2])∧SlC w' w'.heap.size A (parS s).1 c)∧Below w.heap.size w w':=by
 have PX:Hid (parS s=if s.length % 80=0∧prt s=true then parE (parN (s.length+1) [] s) else ([],12)):=parS_eq s;have EN:=lh hE;have PR:=lh (fun W=>printable_any s (by omega) W);have PL:=lh (@prt_lin s);generalize parS s=R at *;generalize prt s=pr at *;have ssz:(ByteArray.mk s.toArray).size=s.length:=(by simp [ByteArray.size]);clear hE;by_cases hm:s.length % 80=0
 ·have m3:(s.length:Int) % 80=0:=(by omega);have m4:(s.length:Int).tmod 80=0:=(by rw [Int.tmod_eq_emod_of_nonneg (by omega)]; omega);go_enter_defers Tryz.func10,Tryz.ntmps10
  go_wp2_with fail
  have O0:Hid (BlkV ((w.alloc (.cells #[.slice none 0 0] 22)).alloc (.cells #[.int .i64 0] 23)) w.heap.size 22 #[.slice none 0 0]):=(BlkV.fresh rfl _ _).alloc _;have E0:Hid (BlkV ((w.alloc (.cells #[.slice none 0 0] 22)).alloc (.cells #[.int .i64 0] 23)) (w.heap.size+1) 23 #[.int .i64 0]):=BlkV.fresh (by simp) _ _;have B0:Hid (Below w.heap.size w ((w.alloc (.cells #[.slice none 0 0] 22)).alloc (.cells #[.int .i64 0] 23))):=q0a (blw1 _ _) (blw1 _ _);refine (PR.out _).mono ?_;rintro xx w1 ⟨rfl,hb⟩;replace B0:=lh (q0a B0.out hb);replace O0:=lh (O0.out.keep hb);replace E0:=lh (E0.out.keep hb);clear hb PR m3 m4
  cases pr with
  | false=>
   have hR:R=([],12):=(by rw [PX.out,if_neg (fun h=>by cases h.2)]);go_wp2_with fail
   refine (q0m _).mono ?_;rintro xx wz ⟨rfl,hb⟩;replace B0:=lh (q0a B0.out hb);replace O0:=lh (O0.out.keep hb);replace E0:=lh (E0.out.keep hb);go_wp2_with fail
   refine leaves_cons (f:=46) (args:=#[.pointer (some ⟨w.heap.size,0,none⟩),.pointer (some ⟨w.heap.size+1,0,none⟩)]) (by simp) (by simp [go_sem]) ?_;refine (pcatch_fall _ _ _ _ _ _ [] _ O0.out E0.out (by omega)).mono ?_;rintro e u' w'' ⟨rfl,rfl,ob,rfl⟩;have n1:=(O0.out.alloc ob).put 0 (.slice none 0 0) rfl;have n2:=n1.far (p:=⟨w.heap.size+1,0,none⟩) (by show w.heap.size≠w.heap.size+1; omega) (.int .i64 12);have e1:=((E0.out.alloc ob).far (p:=⟨w.heap.size,0,none⟩) (by show w.heap.size+1≠w.heap.size; omega) (.slice none 0 0)).put 0 (.int .i64 12) rfl;have q0:=n2.at_ 0 rfl;have q1:=e1.at_ 0 rfl;simp [Leaves,settle,results,Tryz.results10,go_sem,q0,q1];subst hR;exact ⟨⟨none,0,⟨⟨rfl,rfl,rfl⟩,rfl⟩,fun hp=>absurd hp (by simp),(fun x hx=>by cases hx),Nat.le_refl _,Nat.zero_le _⟩,((B0.out.alloc (o:=ob) B0.out.size).setCell (p:=⟨w.heap.size,0,none⟩) (Nat.le_refl _) _).setCell (p:=⟨w.heap.size+1,0,none⟩) (Nat.le_succ _) _⟩
  | true=>
   rw [if_pos ⟨hm,rfl⟩] at PX;have LN:=lh (PL.out rfl hm hl);clear PL ssz;go_wp2_with fail
   refine (need_ok _).mono ?_;rintro xx w2 ⟨rfl,hb⟩;replace B0:=lh (q0a B0.out hb);replace O0:=lh (O0.out.keep hb);replace E0:=lh (E0.out.keep hb);clear hb;go_wp2_with fail
   obtain ⟨P,hP⟩:∃ P,parN (s.length+1) [] s=P:=⟨_,rfl⟩;rw [hP] at PX;have H2:Hid (w.heap.size+2≤w2.heap.size):=E0.out.lt;go_loopw [0] (fun s0 wx=>∃ (f:Nat) (out:List CD) (s':List UInt8) (v:Value),s0=.string ⟨s'.toArray⟩∧parN f out s'=P∧Lin s'∧s'.length+1≤f∧out.length * 80+s'.length≤s.length∧(∀ x∈out,OkK x)∧BlkV wx w.heap.size 22 #[v]∧BlkV wx (w.heap.size+1) 23 #[.int .i64 0]∧wx.ownsRow (w.heap.size+2) 31 7 v out.length (out.flatMap CD.cells)∧w.heap.size+2≤wx.heap.size∧Below w.heap.size w wx) (fun v _=>Lib.strSize v)
   case atStart=>exact ⟨s.length+1,[],s,.slice none 0 0,rfl,hP,LN.out,Nat.le_refl _,by simp,(fun x hx=>by cases hx),O0.out,E0.out,World.ownsRow_nil _ _ _ _,H2.out,B0.out⟩
   case round=>
    clear hP LN O0 E0 H2 B0;obtain ⟨f,out,s',v,rfl,hp,hL,hf,hc,ha,hO,hE,hw,hz,hb⟩:=hrel;obtain ⟨f,rfl⟩:∃ m,f=m+1:=⟨f - 1,by omega⟩;have HP:=lh hp;have LN:=lh hL;have HA:=lh ha;have O0:=lh hO;have E0:=lh hE;have OW:=lh hw;have HZ:=lh hz;have B0:=lh hb;clear hp hL ha hO hE hw hz hb;by_cases hs:s'=[]
    ·subst hs;have hP:=HP.out;rw [parN_0] at hP;obtain ⟨A,c,hv,hsl⟩:=own_slc OW.out HA.out (by omega);subst hv;have SL:=lh hsl;clear hsl HP LN;have c0:=O0.out.at_ 0 rfl;have f0:=O0.out.frozen 0;have c1:=E0.out.at_ 0 rfl;have f1:=E0.out.frozen 0;have hlt:=E0.out.lt;by_cases h200:200 < out.length
     ·have d1:decide ((200:Int) < (out.length:Int))=true:=decide_eq_true (by omega);have d1':decide (200 < out.length)=true:=decide_eq_true h200;have hR:R=([],4):=(by rw [PX.out,← hP]; unfold parE; dsimp only; rw [if_pos h200]);have n2:=(O0.out.put 0 (.slice none 0 0) rfl).far (p:=⟨w.heap.size+1,0,none⟩) (by show w.heap.size≠w.heap.size+1; omega) (.int .i64 4);have e1:=(E0.out.far (p:=⟨w.heap.size,0,none⟩) (by show w.heap.size+1≠w.heap.size; omega) (.slice none 0 0));have g1:=e1.at_ 0 rfl;have g2:=e1.frozen 0;have e2:=e1.put 0 (.int .i64 4) rfl;have HN:=lh n2;have HE2:=lh e2;clear n2 e1 e2;go_wp2_with fail
      refine leaves_cons (f:=46) (args:=#[.pointer (some ⟨w.heap.size,0,none⟩),.pointer (some ⟨w.heap.size+1,0,none⟩)]) (by simp) (by simp [go_sem]) ?_;refine (pcatch_idle _ _ _).mono ?_;rintro e u' w'' ⟨rfl,rfl,rfl⟩;have q0:=HN.out.at_ 0 rfl;have q1:=HE2.out.at_ 0 rfl;simp [Leaves,settle,results,Tryz.results10,go_sem,q0,q1];subst hR;exact ⟨⟨none,0,⟨⟨rfl,rfl,rfl⟩,rfl⟩,fun hp=>absurd hp (by simp),(fun x hx=>by cases hx),Nat.le_refl _,Nat.zero_le _⟩,(B0.out.setCell (p:=⟨w.heap.size,0,none⟩) (Nat.le_refl _) _).setCell (p:=⟨w.heap.size+1,0,none⟩) (Nat.le_succ _) _⟩
     ·have d1:decide ((200:Int) < (out.length:Int))=false:=decide_eq_false (by omega);have d1':decide (200 < out.length)=false:=decide_eq_false h200;have hR:R=(out,0):=(by rw [PX.out,← hP]; unfold parE; dsimp only; rw [if_neg h200]);have n1:=O0.out.put 0 (.slice A out.length c) rfl;have n2:=n1.far (p:=⟨w.heap.size+1,0,none⟩) (by show w.heap.size≠w.heap.size+1; omega) (.int .i64 0);have e1:=(E0.out.far (p:=⟨w.heap.size,0,none⟩) (by show w.heap.size+1≠w.heap.size; omega) (.slice A out.length c));have g1:=e1.at_ 0 rfl;have g2:=e1.frozen 0;have e2:=e1.put 0 (.int .i64 0) rfl;have HN:=lh n2;have HE2:=lh e2;obtain ⟨A9,c9,hv9,hs9⟩:=own_slc (own_far (own_far OW.out (p:=⟨w.heap.size,0,none⟩) (by show w.heap.size < w.heap.size+2; omega) (.slice A out.length c)) (p:=⟨w.heap.size+1,0,none⟩) (by show w.heap.size+1 < w.heap.size+2; omega) (.int .i64 0)) HA.out (by omega);injection hv9 with i1 i2 i3
      subst i1 i3;have SL2:=lh hs9;clear hs9 i2;clear n1 n2 e1 e2;go_wp2_with fail
      refine leaves_cons (f:=46) (args:=#[.pointer (some ⟨w.heap.size,0,none⟩),.pointer (some ⟨w.heap.size+1,0,none⟩)]) (by simp) (by simp [go_sem]) ?_;refine (pcatch_idle _ _ _).mono ?_;rintro e u' w'' ⟨rfl,rfl,rfl⟩;have q0:=HN.out.at_ 0 rfl;have q1:=HE2.out.at_ 0 rfl;simp [Leaves,settle,results,Tryz.results10,go_sem,q0,q1];subst hR;exact ⟨⟨A,c,⟨⟨rfl,rfl,rfl⟩,rfl⟩,by simpa using SL2.out⟩,(B0.out.setCell (p:=⟨w.heap.size,0,none⟩) (Nat.le_refl _) _).setCell (p:=⟨w.heap.size+1,0,none⟩) (Nat.le_succ _) _⟩
    ·have hp0:0 < s'.length:=List.length_pos_iff.2 hs;have sm:=LN.out.m;have h80:80≤s'.length:=(by omega);have s1:(s' == [])=false:=beq_eq_false_iff_ne.2 hs;have s2:s'.isEmpty=false:=(by cases s'; exact absurd rfl hs; rfl);have hP:=HP.out;rw [parN_s f out s' hs] at hP;have RO:=lh (fun m (h:readS s'=some m)=>readS_ok h LN.out h80);have RD:=lh (fun W (h:Below w.heap.size w W)=>read_any s' h80 LN.out W (EN.out.keep h));generalize readS s'=q at *;have HQ:=lh hP;clear hP HP LN hs;go_wp2_with fail
     refine (RD.out _ B0.out).mono ?_;rintro xx w3 ⟨hr,hb⟩;replace B0:=lh (q0a B0.out hb);replace O0:=lh (O0.out.keep hb);replace E0:=lh (E0.out.keep hb);replace HZ:=lh (Nat.le_trans HZ.out hb.size);replace OW:=lh (own_below OW.out hb);clear hb RD
     cases q with
     | none=>
      subst hr;have hR:R=([],12):=(by rw [PX.out,← HQ.out]; rfl);go_wp2_with fail
      refine leaves_cons (f:=46) (args:=#[.pointer (some ⟨w.heap.size,0,none⟩),.pointer (some ⟨w.heap.size+1,0,none⟩)]) (by simp) (by simp [go_sem]) ?_;refine (pcatch_fall _ _ _ _ _ _ [] _ O0.out E0.out (by omega)).mono ?_;rintro e u' w'' ⟨rfl,rfl,ob,rfl⟩;have n1:=(O0.out.alloc ob).put 0 (.slice none 0 0) rfl;have n2:=n1.far (p:=⟨w.heap.size+1,0,none⟩) (by show w.heap.size≠w.heap.size+1; omega) (.int .i64 12);have e1:=((E0.out.alloc ob).far (p:=⟨w.heap.size,0,none⟩) (by show w.heap.size+1≠w.heap.size; omega) (.slice none 0 0)).put 0 (.int .i64 12) rfl;have q0:=n2.at_ 0 rfl;have q1:=e1.at_ 0 rfl;simp [Leaves,settle,results,Tryz.results10,go_sem,q0,q1];subst hR;exact ⟨⟨none,0,⟨⟨rfl,rfl,rfl⟩,rfl⟩,fun hp=>absurd hp (by simp),(fun x hx=>by cases hx),Nat.le_refl _,Nat.zero_le _⟩,((B0.out.alloc (o:=ob) B0.out.size).setCell (p:=⟨w.heap.size,0,none⟩) (Nat.le_refl _) _).setCell (p:=⟨w.heap.size+1,0,none⟩) (Nat.le_succ _) _⟩
     | some m=>
      subst hr;obtain ⟨LR,hlr,bd⟩:=RO.out _ rfl;obtain ⟨⟨k,kd,y,n,e,tx,o⟩,rs⟩:=m;dsimp only at LR hlr bd;have OKK:=lh bd.okK;have LR2:=lh LR;clear RO LR bd;dsimp only;dsimp only [parW] at HQ;go_wp2_with fail
      have KC:Hid (BlkV (w3.alloc (.cells #[.string ⟨k.toArray⟩,.int .u8 kd,.bool y,.int .i64 n,.int .i64 e,.string ⟨tx.toArray⟩,.string ⟨o.toArray⟩] 31)) w3.heap.size 31 #[.string ⟨k.toArray⟩,.int .u8 kd,.bool y,.int .i64 n,.int .i64 e,.string ⟨tx.toArray⟩,.string ⟨o.toArray⟩]):=BlkV.fresh rfl _ _;have hb:=blw1 w3 (.cells #[.string ⟨k.toArray⟩,.int .u8 kd,.bool y,.int .i64 n,.int .i64 e,.string ⟨tx.toArray⟩,.string ⟨o.toArray⟩] 31);replace B0:=lh (q0a B0.out hb);replace O0:=lh (O0.out.keep hb);replace E0:=lh (E0.out.keep hb);replace HZ:=lh (Nat.le_trans HZ.out hb.size);replace OW:=lh (own_below OW.out hb);generalize (w3.alloc (.cells #[.string ⟨k.toArray⟩,.int .u8 kd,.bool y,.int .i64 n,.int .i64 e,.string ⟨tx.toArray⟩,.string ⟨o.toArray⟩] 31))=w4 at *;clear hb;generalize w3.heap.size=gc at *;refine (q0v ⟨k,kd,y,n,e,tx,o⟩ OKK.out.ok OKK.out.o OKK.out.t OKK.out.e _ (EN.out.env.keep B0.out)).mono ?_;rintro xx w5 ⟨rfl,hb⟩;replace B0:=lh (q0a B0.out hb);replace O0:=lh (O0.out.keep hb);replace E0:=lh (E0.out.keep hb);replace HZ:=lh (Nat.le_trans HZ.out hb.size);replace OW:=lh (own_below OW.out hb);replace KC:=lh (KC.out.keep hb);clear hb;generalize chkC ⟨k,kd,y,n,e,tx,o⟩=ck at *
      cases ck with
      | false=>
       rw [if_neg (by decide)] at HQ ⊢;go_wp2_with fail
       refine (q0m _).mono ?_;rintro xx wz ⟨rfl,hb⟩;replace B0:=lh (q0a B0.out hb);replace O0:=lh (O0.out.keep hb);replace E0:=lh (E0.out.keep hb);have hR:R=([],12):=(by rw [PX.out,← HQ.out]; rfl);go_wp2_with fail
       refine leaves_cons (f:=46) (args:=#[.pointer (some ⟨w.heap.size,0,none⟩),.pointer (some ⟨w.heap.size+1,0,none⟩)]) (by simp) (by simp [go_sem]) ?_;refine (pcatch_fall _ _ _ _ _ _ [] _ O0.out E0.out (by omega)).mono ?_;rintro e u' w'' ⟨rfl,rfl,ob,rfl⟩;have n1:=(O0.out.alloc ob).put 0 (.slice none 0 0) rfl;have n2:=n1.far (p:=⟨w.heap.size+1,0,none⟩) (by show w.heap.size≠w.heap.size+1; omega) (.int .i64 12);have e1:=((E0.out.alloc ob).far (p:=⟨w.heap.size,0,none⟩) (by show w.heap.size+1≠w.heap.size; omega) (.slice none 0 0)).put 0 (.int .i64 12) rfl;have q0:=n2.at_ 0 rfl;have q1:=e1.at_ 0 rfl;simp [Leaves,settle,results,Tryz.results10,go_sem,q0,q1];subst hR;exact ⟨⟨none,0,⟨⟨rfl,rfl,rfl⟩,rfl⟩,fun hp=>absurd hp (by simp),(fun x hx=>by cases hx),Nat.le_refl _,Nat.zero_le _⟩,((B0.out.alloc (o:=ob) B0.out.size).setCell (p:=⟨w.heap.size,0,none⟩) (Nat.le_refl _) _).setCell (p:=⟨w.heap.size+1,0,none⟩) (Nat.le_succ _) _⟩
      | true=>
       rw [if_pos rfl] at HQ ⊢;go_wp2_with fail
       refine (need_ok _).mono ?_;rintro xx w6 ⟨rfl,hb⟩;replace B0:=lh (q0a B0.out hb);replace O0:=lh (O0.out.keep hb);replace E0:=lh (E0.out.keep hb);replace HZ:=lh (Nat.le_trans HZ.out hb.size);replace OW:=lh (own_below OW.out hb);replace KC:=lh (KC.out.keep hb);clear hb;have hk:BlkV (w6.alloc (.cells #[.string ⟨k.toArray⟩,.int .u8 kd,.bool y,.int .i64 n,.int .i64 e,.string ⟨tx.toArray⟩,.string ⟨o.toArray⟩] 31)) w6.heap.size 31 #[.string ⟨k.toArray⟩,.int .u8 kd,.bool y,.int .i64 n,.int .i64 e,.string ⟨tx.toArray⟩,.string ⟨o.toArray⟩]:=BlkV.fresh rfl _ _;have hb:=blw1 w6 (.cells #[.string ⟨k.toArray⟩,.int .u8 kd,.bool y,.int .i64 n,.int .i64 e,.string ⟨tx.toArray⟩,.string ⟨o.toArray⟩] 31);have hsl:SlC (w6.alloc (.cells #[.string ⟨k.toArray⟩,.int .u8 kd,.bool y,.int .i64 n,.int .i64 e,.string ⟨tx.toArray⟩,.string ⟨o.toArray⟩] 31)) (w6.heap.size+1) (some ⟨w6.heap.size,0,none⟩) [⟨k,kd,y,n,e,tx,o⟩] 1:=⟨RdV.of_blk (vs:=[(⟨k,kd,y,n,e,tx,o⟩:CD)].flatMap CD.cells) hk,(fun x hx=>by rw [List.mem_singleton.1 hx]; exact OKK.out),Nat.le_refl _,by simp⟩;obtain ⟨v',w7,hr,how,hbb⟩:=app_cards 22 (w.heap.size+2) _ _ [⟨k,kd,y,n,e,tx,o⟩] 1 v out.length (out.flatMap CD.cells) (w6.alloc (.cells #[.string ⟨k.toArray⟩,.int .u8 kd,.bool y,.int .i64 n,.int .i64 e,.string ⟨tx.toArray⟩,.string ⟨o.toArray⟩] 31)) hsl (own_below OW.out hb) (by simp; omega) (Nat.le_trans HZ.out hb.size);have O7:=lh ((O0.out.keep hb).below (hbb _ (Nat.le_refl _)) (by omega));have E7:=lh ((E0.out.keep hb).below (hbb _ (Nat.le_refl _)) (by omega));have B7:=lh ((q0a B0.out hb).trans (hbb w.heap.size (by omega)));have z7:Hid (w.heap.size+2≤w7.heap.size):=E7.out.lt;obtain ⟨out2,ho2⟩:∃ l,l=out ++ [(⟨k,kd,y,n,e,tx,o⟩:CD)]:=⟨_,rfl⟩;have how2:w7.ownsRow (w.heap.size+2) 31 7 v' out2.length (out2.flatMap CD.cells):=by rw [ho2,List.length_append,List.flatMap_append]; exact how
       have HA8:Hid (∀ x∈out2,OkK x):=fun x hx=>by
        rw [ho2] at hx;rcases List.mem_append.1 hx with h | h
        ·exact HA.out x h
        ·rw [List.mem_singleton.1 h]; exact OKK.out
       have l2:out2.length=out.length+1:=(by rw [ho2,List.length_append]; rfl);obtain ⟨A7,c7,hv7,-⟩:=own_slc how2 HA8.out (by omega);subst hv7;rw [← ho2] at HQ;have L2:=lh l2;clear l2;have OW8:Hid ((w7.setCell ⟨w.heap.size,0,none⟩ (.slice A7 out2.length c7)).ownsRow (w.heap.size+2) 31 7 (.slice A7 out2.length c7) out2.length (out2.flatMap CD.cells)):=own_far how2 (by show w.heap.size < w.heap.size+2; omega) (.slice A7 out2.length c7);have O8:Hid (BlkV (w7.setCell ⟨w.heap.size,0,none⟩ (.slice A7 out2.length c7)) w.heap.size 22 #[.slice A7 out2.length c7]):=O7.out.put 0 (.slice A7 out2.length c7) rfl;have E8:Hid (BlkV (w7.setCell ⟨w.heap.size,0,none⟩ (.slice A7 out2.length c7)) (w.heap.size+1) 23 #[.int .i64 0]):=E7.out.far (p:=⟨w.heap.size,0,none⟩) (by show w.heap.size+1≠w.heap.size; omega) (.slice A7 out2.length c7);have B8:Hid (Below w.heap.size w (w7.setCell ⟨w.heap.size,0,none⟩ (.slice A7 out2.length c7))):=B7.out.setCell (p:=⟨w.heap.size,0,none⟩) (Nat.le_refl _) (.slice A7 out2.length c7);have z8:Hid (w.heap.size+2≤(w7.setCell ⟨w.heap.size,0,none⟩ (.slice A7 out2.length c7)).heap.size):=(by have:=z7.out; unfold Hid; simpa using this);have o7:=O7.out.at_ 0 rfl;have f7:=O7.out.frozen 0;have o6:=O0.out.at_ 0 rfl;have a0:=KC.out.at_ 0 rfl;have a1:=KC.out.at_ 1 rfl;have a2:=KC.out.at_ 2 rfl;have a3:=KC.out.at_ 3 rfl;have a4:=KC.out.at_ 4 rfl;have a5:=KC.out.at_ 5 rfl;have a6:=KC.out.at_ 6 rfl;clear hk hsl hb how how2 ho2 hbb HA OKK O0 E0 OW HZ B0 KC O7 E7 B7 z7;go_wp2_with (at_builtin; refine wpList_plain rfl fun _ hK=>wp_append_at (.tmp 27) (.tmp 29) 22 rfl _ _ _ _ (by kernel_rfl) (by kernel_rfl) hr (hK _ _ ?_))
       go_roundw
       case rel=>exact ⟨f,out2,rs,(.slice A7 out2.length c7),rfl,HQ.out,LR2.out,by omega,by have:=L2.out; omega,HA8.out,O8.out,E8.out,OW8.out,z8.out,B8.out⟩
       case measure=>simp [Lib.strSize,ByteArray.size]; omega
 ·have m1:(((s.length:Int).tmod 80) == 0)=false:=(by rw [Int.tmod_eq_emod_of_nonneg (by omega)]; simp; omega);have m2:(((s.length:Int) % 80) == 0)=false:=(by simp; omega);have hR:R=([],12):=(by rw [PX.out,if_neg (fun h=>hm h.1)]);go_enter_defers Tryz.func10,Tryz.ntmps10
  go_wp2_with fail
  have O0:Hid (BlkV ((w.alloc (.cells #[.slice none 0 0] 22)).alloc (.cells #[.int .i64 0] 23)) w.heap.size 22 #[.slice none 0 0]):=(BlkV.fresh rfl _ _).alloc _;have E0:Hid (BlkV ((w.alloc (.cells #[.slice none 0 0] 22)).alloc (.cells #[.int .i64 0] 23)) (w.heap.size+1) 23 #[.int .i64 0]):=BlkV.fresh (by simp) _ _;have B0:Hid (Below w.heap.size w ((w.alloc (.cells #[.slice none 0 0] 22)).alloc (.cells #[.int .i64 0] 23))):=q0a (blw1 _ _) (blw1 _ _);refine (q0m _).mono ?_;rintro xx wz ⟨rfl,hb⟩;replace B0:=lh (q0a B0.out hb);replace O0:=lh (O0.out.keep hb);replace E0:=lh (E0.out.keep hb);go_wp2_with fail
  refine leaves_cons (f:=46) (args:=#[.pointer (some ⟨w.heap.size,0,none⟩),.pointer (some ⟨w.heap.size+1,0,none⟩)]) (by simp) (by simp [go_sem]) ?_;refine (pcatch_fall _ _ _ _ _ _ [] _ O0.out E0.out (by omega)).mono ?_;rintro e u' w'' ⟨rfl,rfl,ob,rfl⟩;have n1:=(O0.out.alloc ob).put 0 (.slice none 0 0) rfl;have n2:=n1.far (p:=⟨w.heap.size+1,0,none⟩) (by show w.heap.size≠w.heap.size+1; omega) (.int .i64 12);have e1:=((E0.out.alloc ob).far (p:=⟨w.heap.size,0,none⟩) (by show w.heap.size+1≠w.heap.size; omega) (.slice none 0 0)).put 0 (.int .i64 12) rfl;have q0:=n2.at_ 0 rfl;have q1:=e1.at_ 0 rfl;simp [Leaves,settle,results,Tryz.results10,go_sem,q0,q1];subst hR;exact ⟨⟨none,0,⟨⟨rfl,rfl,rfl⟩,rfl⟩,fun hp=>absurd hp (by simp),(fun x hx=>by cases hx),Nat.le_refl _,Nat.zero_le _⟩,((B0.out.alloc (o:=ob) B0.out.size).setCell (p:=⟨w.heap.size,0,none⟩) (Nat.le_refl _) _).setCell (p:=⟨w.heap.size+1,0,none⟩) (Nat.le_succ _) _⟩
end Go.Proofs.YtcpofeehpijbcaaGreatDoor
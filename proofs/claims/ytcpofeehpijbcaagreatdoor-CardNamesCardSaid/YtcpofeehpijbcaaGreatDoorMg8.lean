import Derived.Test.YtcpofeehpijbcaaGreatDoorRf6
import Derived.Test.YtcpofeehpijbcaaGreatDoorPa7
import Derived.Test.YtcpofeehpijbcaaGreatDoorPa8
import Derived.Lib.LazyBuf
set_option maxHeartbeats 16000000
set_option maxRecDepth 100000
namespace Go.Proofs.YtcpofeehpijbcaaGreatDoor
open Lib renaming hid → lh
open Go.RowKit Go.Lib Go.Shelf
attribute [local go_sem ↓] Go.wp_at_zero Go.wp_at_succ
theorem own_belowB {w w':World} {base n:Nat} {e:TypeId} {size:Nat} {v:Value} {xs:List Value} (h:w.ownsRow base e size v n xs) (hb:Below w.heap.size w w'):w'.ownsRow base e size v n xs:=by
 rcases h.2 with ⟨hv,h0⟩ | ⟨g,cap,cur,hv,hg,hh,hnc,hcap,hsz,htk⟩
 ·exact ⟨h.1,.inl ⟨hv,h0⟩⟩
 ·exact ⟨h.1,.inr ⟨g,cap,cur,hv,hg,(hb.block g (lt_of_block hh)).trans hh,hnc,hcap,hsz,htk⟩⟩
def oneN (c:UInt8):Nat:=if c=39 then 2 else 1
def pcs:List UInt8→Nat→List UInt8→List (List UInt8)
 | cur,_,[]=>[cur]
 | cur,n,c :: r=>if 67 < n+oneN c then cur :: pcs [c] (oneN c) r else pcs (cur ++ [c]) (n+oneN c) r
def strV (l:List UInt8):Value:=.string ⟨l.toArray⟩
theorem infoS:∃ i z,Tryz.prog.info? 9 = some i∧i.zero=some z∧z.cells.size=1∧i.size=1∧i.bytes=16:=by
 have hm:(Tryz.prog.info? 9).map (fun i=>(i.zero.map (fun z=>z.cells.size),i.size,i.bytes))=some (some 1,1,16):=(by kernel_rfl);revert hm
 generalize Tryz.prog.info? 9 = I;intro hm
 cases I with
 | none=>cases hm
 | some i=>
  simp only [Option.map_some,Option.some.injEq,Prod.mk.injEq] at hm
  cases hz:i.zero with
  | none=>rw [hz] at hm; cases hm.1
  | some z=>rw [hz] at hm; exact ⟨i,z,rfl,hz,Option.some.inj hm.1,hm.2.1,hm.2.2⟩
theorem app_str (ty B0:Nat) (x:List UInt8) (b:Nat) (v:Value) (n:Nat) (xs:List Value) (w:World) (hc:w.cell? ⟨b,0,none⟩=some (strV x)) (ho:w.ownsRow B0 9 1 v n xs) (hn:n+1≤1000000) (hB:B0≤w.heap.size) :
  ∃ v' w',(Builtin.append_ #[156,156] ty #[v,.slice (some ⟨b,0,none⟩) 1 1]).run Tryz.prog w=.ok v' w'∧w'.ownsRow B0 9 1 v' (n+1) (xs ++ [strV x])∧(∀ B',B'≤B0→Below B' w w'):=by
 obtain ⟨i,z,hi,hz,hzs,hsz,hby⟩:=infoS
 obtain ⟨v',w',hr,ho',hg,-⟩:=run_append_own (P:=Tryz.prog) w B0 156 ty 9 i z 1 16 Tryz.underlying156 hi hz hsz hby hzs (by omega) v n xs ho ⟨b,0,none⟩ 1 1 [strV x] rfl (fun j u hu=>by
  cases j with
  | zero=>simp at hu; subst hu; rw [Addr.add_lit]; exact hc
  | succ j=>simp at hu) (fun u hu=>by rw [List.mem_singleton.1 hu]; rfl) (by unfold maxLen; omega) (by omega) hB
 refine ⟨v',w',hr,ho',fun B' hB'=>?_⟩;exact (Below.refl _ _).grown hg (by omega) (fun k hk=>by have:=(World.ownsRow.lt ho k hk).1; omega)
theorem own_iter {w:World} {base n:Nat} {e:TypeId} {size:Nat} {v:Value} {xs:List Value} (h:w.ownsRow base e size v n xs) {k:Nat} (hk:k < base) (s:ByteArray) (p:Nat):(w.iterAt k s p).ownsRow base e size v n xs:=by
 rcases h.2 with ⟨hv,h0⟩ | ⟨g,cap,cur,hv,hg,hh,hnc,hcap,hsz,htk⟩
 ·exact ⟨h.1,.inl ⟨hv,h0⟩⟩
 ·exact ⟨h.1,.inr ⟨g,cap,cur,hv,hg,(iterAt_other w k g s p (by omega)).trans hh,hnc,hcap,hsz,htk⟩⟩
theorem pcs_step (l:List UInt8) (fr n i:Nat) (h:i < l.length) (hf:fr≤i):pcs ((l.take i).drop fr) n (l.drop i)=if 67 < n+oneN l[i] then ((l.take i).drop fr) :: pcs ((l.take (i+1)).drop i) (oneN l[i]) (l.drop (i+1)) else pcs ((l.take (i+1)).drop fr) (n+oneN l[i]) (l.drop (i+1)):=by
 rw [List.drop_eq_getElem_cons h,pcs]
 have e1:(l.take (i+1)).drop i=[l[i]]:=by
  rw [← List.take_append_getElem h,List.drop_append,List.drop_eq_nil_of_le (by rw [List.length_take]; omega),List.length_take,Nat.min_eq_left (by omega)];simp
 have e2:(l.take (i+1)).drop fr=(l.take i).drop fr ++ [l[i]]:=by
  rw [← List.take_append_getElem h,List.drop_append,List.length_take,Nat.min_eq_left (by omega),show fr - i=0 by omega];rfl
 rw [e1,e2]
theorem pieces_any (l:List UInt8) (hl:l.length≤100000) (ha:∀ b∈l,b.toNat < 128) (w:World) :
  Calls Tryz.prog 123 #[.string ⟨l.toArray⟩] w fun e w'=>∃ v,e=.returned v∧w'.ownsRow (w.heap.size+1) 9 1 v (pcs [] 0 l).length ((pcs [] 0 l).map strV)∧Below w.heap.size w w':=by
 have ST:=lh (fun fr n i h hf=>pcs_step l fr n i h hf);have HA:=lh (fun i (h:i < l.length)=>ha l[i] (List.getElem_mem h));obtain ⟨P,hP⟩:∃ P,pcs [] 0 l=P:=⟨_,rfl⟩;rw [hP];have ssz:(ByteArray.mk l.toArray).size=l.length:=(by simp [ByteArray.size]);have XL:=lh (fun a b=>q1d l a b);clear ha;go_enter Tryz.func123,Tryz.ntmps123
 go_wp2
 have I0:Hid ((w.iter ⟨l.toArray⟩ 0).heap[w.heap.size]? = some (.stringIter ⟨l.toArray⟩ 0)):=World.iter_heap w _ 0;have B0:Hid (Below w.heap.size w (w.iter ⟨l.toArray⟩ 0)):=blw1 _ (.stringIter _ 0);have H0:Hid (w.heap.size+1≤(w.iter ⟨l.toArray⟩ 0).heap.size):=(by unfold Hid; simp [World.iter]);go_loopg [3,4,5] l.length (fun gf s3 s4 s5 wx=>∃ (pos fr n:Nat) (d:List (List UInt8)),s4=.int .i64 fr∧s5=.int .i64 n∧pos≤l.length∧fr≤pos∧n≤1000∧d.length≤pos∧gf+pos=l.length∧d ++ pcs ((l.take pos).drop fr) n (l.drop pos)=P∧wx.heap[w.heap.size]? = some (.stringIter ⟨l.toArray⟩ pos)∧wx.ownsRow (w.heap.size+1) 9 1 s3 d.length (d.map strV)∧w.heap.size+1≤wx.heap.size∧Below w.heap.size w wx)
 case atStart=>exact ⟨0,0,0,[],rfl,rfl,Nat.zero_le _,Nat.le_refl _,Nat.zero_le _,Nat.zero_le _,by omega,by simpa using hP,I0.out,World.ownsRow_nil _ _ _ _,H0.out,B0.out⟩
 case round=>
  clear hP I0 B0 H0;obtain ⟨pos,fr,n,d,rfl,rfl,hpos,hfr,hn,hd,hgf,hp,hit,how,hz,b⟩:=hrel;have HP:=lh hp;have OW:=lh how;have HZ:=lh hz;have B:=lh b;clear hp how hz b;by_cases hps:pos < l.length
  ·obtain ⟨r,p,hnx,hr,hcase⟩:=next_byte wr w.heap.size l pos hit hps;have h128:=HA.out pos hps;obtain ⟨rfl,rfl⟩:r=l[pos].toNat∧p=pos+1:=by omega
   have st:=ST.out fr n pos hps hfr;rw [st] at HP;clear st hcase hr;have I2:=lh (iterAt_heap wr w.heap.size ⟨l.toArray⟩ pos (pos+1) hit);have B2:=lh (below_iterAt B.out (k:=w.heap.size) (Nat.le_refl _) ⟨l.toArray⟩ (pos+1));have OW2:=lh (own_iter OW.out (k:=w.heap.size) (Nat.lt_succ_self _) ⟨l.toArray⟩ (pos+1));have Z2:Hid (w.heap.size+1≤(wr.iterAt w.heap.size ⟨l.toArray⟩ (pos+1)).heap.size):=by unfold Hid; rw [iterAt_size]; exact HZ.out
   have h9:(l[pos]=39) ↔ ((l[pos].toNat:Int) == 39)=true:=by
    have h:=u8_eq l[pos] 39 (by omega);rw [show UInt8.ofNat 39=39 from rfl] at h;rw [← beq_iff_eq (a:=l[pos]),h];exact Iff.rfl
   have x1:=XL.out fr pos;have ho:oneN l[pos]=if l[pos]=39 then 2 else 1:=rfl
   have IB:∃ b,((l[pos].toNat:Int) == 39)=b∧oneN l[pos]=(if b then 2 else 1):=by
    by_cases h:l[pos]=39
    ·exact ⟨true,h9.1 h,by rw [ho,if_pos h]; rfl⟩
    ·exact ⟨false,by cases hh:((l[pos].toNat:Int) == 39) with | false=>rfl | true=>exact absurd (h9.2 hh) h,by rw [ho,if_neg h]; rfl⟩
   obtain ⟨q,hq,ho2⟩:=IB;clear h9 ho;generalize oneN l[pos]=k at *;generalize l[pos]=c at *;generalize (l.take pos).drop fr=cur at *;clear HZ B OW hit;cases q
   ·have ho2':k=1:=ho2;subst ho2';clear ho2;have i1:IntKind.i64.wrap ((n:Int)+1)=(n:Int)+1:=IntWalk.i64_in _ (by omega);by_cases hb:67 < n+1
    ·have d1:decide ((67:Int) < (n:Int)+1)=true:=decide_eq_true (by omega);rw [if_pos hb] at HP;have hk:BlkV ((wr.iterAt w.heap.size ⟨l.toArray⟩ (pos+1)).alloc (.cells #[.string ⟨cur.toArray⟩] 9)) (wr.iterAt w.heap.size ⟨l.toArray⟩ (pos+1)).heap.size 9 #[.string ⟨cur.toArray⟩]:=BlkV.fresh rfl _ _;have hb1:=blw1 (wr.iterAt w.heap.size ⟨l.toArray⟩ (pos+1)) (.cells #[.string ⟨cur.toArray⟩] 9);obtain ⟨v',w7,hr,how,hbb⟩:=app_str 156 (w.heap.size+1) cur (wr.iterAt w.heap.size ⟨l.toArray⟩ (pos+1)).heap.size _ d.length (d.map strV) ((wr.iterAt w.heap.size ⟨l.toArray⟩ (pos+1)).alloc (.cells #[.string ⟨cur.toArray⟩] 9)) (hk.at_ 0 rfl) (own_belowB OW2.out hb1) (by omega) (Nat.le_trans Z2.out hb1.size);have B7:=lh ((q0a B2.out hb1).trans (hbb w.heap.size (by omega)));have I7:Hid (w7.heap[w.heap.size]? = some (.stringIter ⟨l.toArray⟩ (pos+1))):=((hbb (w.heap.size+1) (Nat.le_refl _)).block w.heap.size (Nat.lt_succ_self _)).trans ((hb1.block w.heap.size Z2.out).trans I2.out);have Z7:Hid (w.heap.size+1≤w7.heap.size):=Nat.le_trans (Nat.le_trans Z2.out hb1.size) (hbb 0 (Nat.zero_le _)).size;obtain ⟨d2,hd2⟩:∃ x,x=d ++ [cur]:=⟨_,rfl⟩;have how2:w7.ownsRow (w.heap.size+1) 9 1 v' d2.length (d2.map strV):=(by rw [hd2,List.length_append,List.map_append]; exact how);have l2:d2.length=d.length+1:=(by rw [hd2,List.length_append]; rfl);rw [List.append_cons,← hd2] at HP;have L2:=lh l2;have OW8:=lh how2;clear hk hb1 how how2 hd2 hbb l2 OW2 B2 I2 Z2;have tn:decide ((0:Int)≤(fr:Int))=true:=decide_eq_true (by omega);have tn1:decide ((fr:Int)≤(pos:Int))=true:=decide_eq_true (by omega);have tn2:decide ((pos:Int)≤(l.length:Int))=true:=decide_eq_true (by omega);have tn3:decide (pos≤l.length)=true:=decide_eq_true (by omega);have tn4:decide (fr≤pos)=true:=decide_eq_true (by omega);have hgk:∃ m,gk=m+1:=⟨gk - 1,by omega⟩;obtain ⟨m,rfl⟩:=hgk;go_wp2_with (at_builtin; refine wpList_plain rfl fun _ hK=>wp_append_at (.tmp 21) (.tmp 26) 156 rfl _ _ _ _ (by kernel_rfl) (by kernel_rfl) hr (hK _ _ ?_))
     go_roundg m
     case measure=>omega
     case rel=>exact ⟨pos+1,pos,1,d2,rfl,by go_num,by omega,by omega,by omega,by have:=L2.out; omega,by omega,HP.out,I7.out,OW8.out,Z7.out,B7.out⟩
    ·have d1:decide ((67:Int) < (n:Int)+1)=false:=decide_eq_false (by omega);rw [if_neg hb] at HP;obtain ⟨m,rfl⟩:∃ m,gk=m+1:=⟨gk - 1,by omega⟩;clear x1;go_wp2
     go_roundg m
     case measure=>omega
     case rel=>exact ⟨pos+1,fr,n+1,d,rfl,by go_num,by omega,by omega,by omega,by omega,by omega,HP.out,I2.out,OW2.out,Z2.out,B2.out⟩
   ·have ho2':k=2:=ho2;subst ho2';clear ho2;have i1:IntKind.i64.wrap ((n:Int)+2)=(n:Int)+2:=IntWalk.i64_in _ (by omega);by_cases hb:67 < n+2
    ·have d1:decide ((67:Int) < (n:Int)+2)=true:=decide_eq_true (by omega);rw [if_pos hb] at HP;have hk:BlkV ((wr.iterAt w.heap.size ⟨l.toArray⟩ (pos+1)).alloc (.cells #[.string ⟨cur.toArray⟩] 9)) (wr.iterAt w.heap.size ⟨l.toArray⟩ (pos+1)).heap.size 9 #[.string ⟨cur.toArray⟩]:=BlkV.fresh rfl _ _;have hb1:=blw1 (wr.iterAt w.heap.size ⟨l.toArray⟩ (pos+1)) (.cells #[.string ⟨cur.toArray⟩] 9);obtain ⟨v',w7,hr,how,hbb⟩:=app_str 156 (w.heap.size+1) cur (wr.iterAt w.heap.size ⟨l.toArray⟩ (pos+1)).heap.size _ d.length (d.map strV) ((wr.iterAt w.heap.size ⟨l.toArray⟩ (pos+1)).alloc (.cells #[.string ⟨cur.toArray⟩] 9)) (hk.at_ 0 rfl) (own_belowB OW2.out hb1) (by omega) (Nat.le_trans Z2.out hb1.size);have B7:=lh ((q0a B2.out hb1).trans (hbb w.heap.size (by omega)));have I7:Hid (w7.heap[w.heap.size]? = some (.stringIter ⟨l.toArray⟩ (pos+1))):=((hbb (w.heap.size+1) (Nat.le_refl _)).block w.heap.size (Nat.lt_succ_self _)).trans ((hb1.block w.heap.size Z2.out).trans I2.out);have Z7:Hid (w.heap.size+1≤w7.heap.size):=Nat.le_trans (Nat.le_trans Z2.out hb1.size) (hbb 0 (Nat.zero_le _)).size;obtain ⟨d2,hd2⟩:∃ x,x=d ++ [cur]:=⟨_,rfl⟩;have how2:w7.ownsRow (w.heap.size+1) 9 1 v' d2.length (d2.map strV):=(by rw [hd2,List.length_append,List.map_append]; exact how);have l2:d2.length=d.length+1:=(by rw [hd2,List.length_append]; rfl);rw [List.append_cons,← hd2] at HP;have L2:=lh l2;have OW8:=lh how2;clear hk hb1 how how2 hd2 hbb l2 OW2 B2 I2 Z2;have tn:decide ((0:Int)≤(fr:Int))=true:=decide_eq_true (by omega);have tn1:decide ((fr:Int)≤(pos:Int))=true:=decide_eq_true (by omega);have tn2:decide ((pos:Int)≤(l.length:Int))=true:=decide_eq_true (by omega);have tn3:decide (pos≤l.length)=true:=decide_eq_true (by omega);have tn4:decide (fr≤pos)=true:=decide_eq_true (by omega);have hgk:∃ m,gk=m+1:=⟨gk - 1,by omega⟩;obtain ⟨m,rfl⟩:=hgk;go_wp2_with (at_builtin; refine wpList_plain rfl fun _ hK=>wp_append_at (.tmp 21) (.tmp 26) 156 rfl _ _ _ _ (by kernel_rfl) (by kernel_rfl) hr (hK _ _ ?_))
     go_roundg m
     case measure=>omega
     case rel=>exact ⟨pos+1,pos,2,d2,rfl,by go_num,by omega,by omega,by omega,by have:=L2.out; omega,by omega,HP.out,I7.out,OW8.out,Z7.out,B7.out⟩
    ·have d1:decide ((67:Int) < (n:Int)+2)=false:=decide_eq_false (by omega);rw [if_neg hb] at HP;obtain ⟨m,rfl⟩:∃ m,gk=m+1:=⟨gk - 1,by omega⟩;clear x1;go_wp2
     go_roundg m
     case measure=>omega
     case rel=>exact ⟨pos+1,fr,n+2,d,rfl,by go_num,by omega,by omega,by omega,by omega,by omega,HP.out,I2.out,OW2.out,Z2.out,B2.out⟩
  ·obtain rfl:pos=l.length:=by omega
   have hnx:∀ ty,(Instr.next (.pointer (some ⟨w.heap.size,0,none⟩)) true ty).run Tryz.prog wr=_:=fun ty=>run_next_end_at wr w.heap.size ⟨l.toArray⟩ l.length ty hit (by rw [ssz]; omega);have hp:=HP.out;rw [List.take_length,List.drop_length] at hp;have HP2:Hid (d ++ [l.drop fr]=P):=hp;have x1:=XL.out fr l.length;rw [List.take_length] at x1;have tn:decide ((0:Int)≤(fr:Int))=true:=decide_eq_true (by omega);have tn1:decide ((fr:Int)≤(l.length:Int))=true:=decide_eq_true (by omega);have tn2:decide (fr≤l.length)=true:=decide_eq_true (by omega);have hk:BlkV (wr.alloc (.cells #[.string ⟨(l.drop fr).toArray⟩] 9)) wr.heap.size 9 #[.string ⟨(l.drop fr).toArray⟩]:=BlkV.fresh rfl _ _;have hb1:=blw1 wr (.cells #[.string ⟨(l.drop fr).toArray⟩] 9);obtain ⟨v',w7,hr,how,hbb⟩:=app_str 156 (w.heap.size+1) (l.drop fr) wr.heap.size _ d.length (d.map strV) (wr.alloc (.cells #[.string ⟨(l.drop fr).toArray⟩] 9)) (hk.at_ 0 rfl) (own_belowB OW.out hb1) (by omega) (Nat.le_trans HZ.out hb1.size);have B7:=lh ((q0a B.out hb1).trans (hbb w.heap.size (by omega)));have OW8:Hid (w7.ownsRow (w.heap.size+1) 9 1 v' P.length (P.map strV)):=(by unfold Hid; rw [← HP2.out,List.length_append,List.map_append]; exact how);clear hk hb1 how hbb OW B HP hp HP2 hit;generalize l.drop fr=cur at *;go_wp2_with (at_builtin; refine wpList_plain rfl fun _ hK=>wp_append_at (.tmp 32) (.tmp 36) 156 rfl _ _ _ _ (by kernel_rfl) (by kernel_rfl) hr (hK _ _ ?_))
   exact bodyPost_ret (v:=v') (by simp [results,Tryz.results123,go_sem]) rfl ⟨v',rfl,OW8.out,B7.out⟩
end Go.Proofs.YtcpofeehpijbcaaGreatDoor
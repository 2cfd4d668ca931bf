import Derived.Test.YtcpofeehpijbcaaGreatDoorFr1
import Derived.Test.YtcpofeehpijbcaaGreatDoorMg3
import Derived.Laws.MakeOwn
import Derived.Laws.CopyRow
import Derived.Laws.IdiomCopy
set_option maxHeartbeats 4000000
set_option maxRecDepth 100000
namespace Go.Proofs.YtcpofeehpijbcaaGreatDoor
open Go.RowKit Go.Lib Go.Shelf
attribute [local go_sem ↓] Go.wp_at_zero Go.wp_at_succ
def blkN (n:Nat):Nat:=(n+2879) / 2880 * 2880
def fillS (l:List UInt8) (x:UInt8):List UInt8:=l ++ List.replicate (blkN l.length - l.length) x
theorem blkN_le (n:Nat):n≤blkN n:=by unfold blkN; omega
theorem blkN_up (n:Nat):blkN n≤n+2879:=by unfold blkN; omega
def stF (l:List UInt8) (x:UInt8) (N i:Nat):List UInt8:=l ++ (List.replicate (i - l.length) x ++ List.replicate (N - i) 0)
theorem stF_len (l:List UInt8) (x:UInt8) (N i:Nat) (h1:l.length≤i) (h2:i≤N):(stF l x N i).length=N:=by unfold stF; simp; omega
theorem stF_end (l:List UInt8) (x:UInt8):stF l x (blkN l.length) (blkN l.length)=fillS l x:=by unfold stF fillS; simp
theorem bc_get (l:List UInt8) (j:Nat) (h:j < l.length):(Lib.byteCells l)[j]? = some (.int .u8 ((l[j]'h).toNat:Int)):=by
 unfold Lib.byteCells; rw [List.getElem?_map,List.getElem?_eq_getElem h]; rfl
theorem bc_get_arr (l:List UInt8) (j:Nat) (h:j < l.length):(Lib.byteCells l).toArray[j]? = some (.int .u8 ((l[j]'h).toNat:Int)):=by
 rw [List.getElem?_toArray]; exact bc_get l j h
theorem stF_step (l:List UInt8) (x:UInt8) (N i:Nat) (h1:l.length≤i) (h2:i < N) :
  (Lib.byteCells (stF l x N i)).toArray.setIfInBounds i (.int .u8 (x.toNat:Int))=(Lib.byteCells (stF l x N (i+1))).toArray:=by
 have e1:stF l x N i=(l ++ List.replicate (i - l.length) x) ++ (0 :: List.replicate (N - (i+1)) 0):=by
  unfold stF; rw [← List.append_assoc,show N - i=(N - (i+1))+1 by omega,List.replicate_succ]
 have e2:stF l x N (i+1)=(l ++ List.replicate (i - l.length) x) ++ (x :: List.replicate (N - (i+1)) 0):=by
  unfold stF; rw [show i+1 - l.length=(i - l.length)+1 by omega,List.replicate_succ']; simp
 have hl:(l ++ List.replicate (i - l.length) x).length=i:=(by simp; omega);rw [e1,e2];generalize l ++ List.replicate (i - l.length) x=p at *;subst hl;unfold Lib.byteCells;simp
def zb (N:Nat):Array Value:=(Lib.byteCells (List.replicate N 0)).toArray
theorem zb_made (N:Nat):madeCells #[Value.int .u8 0] N=zb N:=by
 unfold madeCells zb Lib.byteCells;apply Array.ext
 ·simp
 ·intro i h1 h2;simp at h1;simp [Nat.mod_one]
theorem infoU8:∃ i,Tryz.prog.info? 5 = some i∧i.zero=some (.int .u8 0)∧i.size=1∧i.bytes=1:=by
 have hm:(Tryz.prog.info? 5).map (fun i=>(i.zero,i.size,i.bytes))=some (some (.int .u8 0),1,1):=(by kernel_rfl);revert hm
 generalize Tryz.prog.info? 5 = I;intro hm
 cases I with
 | none=>cases hm
 | some i=>
  simp only [Option.map_some,Option.some.injEq,Prod.mk.injEq] at hm;exact ⟨i,rfl,hm⟩
theorem mk_bytes (N:Nat) (h:N≤1000000) (W:World):(Instr.makeSlice 73 (.int .i64 (N:Int)) (.int .i64 (N:Int))).run Tryz.prog W=.ok (.slice (some ⟨W.heap.size,0,none⟩) N N) (W.alloc (.cells (zb N) 5)):=by
 obtain ⟨i,hi,h1,h2,h3⟩:=infoU8;have hz:(Value.int .u8 0).cells=#[.int .u8 0]:=rfl;have hr:=run_makeSlice (P:=Tryz.prog) (w:=W) 73 5 i (.int .u8 0) (by kernel_rfl) hi h1 .i64 .i64 (N:Int) (N:Int) (by omega) (Int.le_refl _) (by rw [h2]; simp; omega) (by rw [h3]; omega) (by omega);rw [hr,hz,h2,Nat.mul_one,Int.toNat_natCast,zb_made]
theorem oneU8 (l:List UInt8):∀ v∈Lib.byteCells l,v.oneCell'=true:=by
 intro v hv;unfold Lib.byteCells at hv;obtain ⟨x,-,rfl⟩:=List.mem_map.1 hv;rfl
theorem cp_bytes (l:List UInt8) (A:Option Addr) (B c g N ty:Nat) (W:World) (h:RdV W B A (Lib.byteCells l)) (hg:BlkV W g 5 (zb N)) (hN:l.length≤N) :
  ∃ W',(Builtin.copy_ #[73,73] ty #[.slice (some ⟨g,0,none⟩) N N,.slice A l.length c]).run Tryz.prog W=.ok (.int .i64 (l.length:Int)) W'∧BlkV W' g 5 (Lib.byteCells (stF l 0 N l.length)).toArray∧(∀ B',B'≤g→Below B' W W'):=by
 have hs:(Tryz.prog.info? 5).map (·.size)=some 1:=(by kernel_rfl);by_cases h0:l.length=0
 ·have e:l=[]:=List.eq_nil_of_length_eq_zero h0;subst e;refine ⟨W,?_,?_,fun B' _=>Below.refl _ _⟩
  ·have:=run_copy_none (P:=Tryz.prog) W 73 73 ty 5 (some ⟨g,0,none⟩) A N N 0 c (by kernel_rfl) hs (by simp);exact this
  ·have e:stF [] 0 N ([]:List UInt8).length=List.replicate N 0:=(by unfold stF; simp);rw [e]; exact hg
 ·obtain ⟨b,q,rfl,-,hc⟩:=h (by rw [Lib.byteCells_length]; omega);have hlen:(Lib.byteCells l).length=l.length:=Lib.byteCells_length l;have hr:=run_copy_row (P:=Tryz.prog) W 73 73 ty 5 g 0 N N ⟨b,q,none⟩ l.length c (zb N) 5 (Lib.byteCells l) (by kernel_rfl) hs hg (by rw [hlen]; simp [hN]) (fun j v hv=>by rw [Addr.add_lit]; exact hc j v hv) (by rw [hlen]; unfold zb; rw [List.size_toArray,Lib.byteCells_length]; simp; exact hN) (oneU8 l);rw [hlen] at hr;refine ⟨_,hr,?_,?_⟩
  ·have e:(zb N).toList.take 0 ++ Lib.byteCells l ++ (zb N).toList.drop (0+l.length)=Lib.byteCells (stF l 0 N l.length):=by
    unfold zb stF Lib.byteCells;simp
   rw [e];exact setRow_heap W g (zb N) _ _ _ hg
  ·intro B' hB;exact below_setRow (Below.refl _ _) hB _
theorem text_any (k s:List UInt8) (w:World) :
  Calls Tryz.prog 138 #[.string ⟨k.toArray⟩,.string ⟨s.toArray⟩] w fun e w'=>e=.returned (.agg #[.string ⟨k.toArray⟩,.int .u8 5,.bool false,.int .i64 0,.int .i64 0,.string ⟨s.toArray⟩,.string ⟨#[]⟩])∧Below w.heap.size w w':=by
 have B0:Hid (∀ cs,Below w.heap.size w (w.alloc (.cells cs 31))):=fun cs=>blw1 _ _;go_enter Tryz.func138,Tryz.ntmps138
 go_wp2
 have KK:BlkV (w.alloc (.cells #[.string ⟨k.toArray⟩,.int .u8 5,.bool false,.int .i64 0,.int .i64 0,.string ⟨s.toArray⟩,.string ⟨#[]⟩] 31)) w.heap.size 31 #[.string ⟨k.toArray⟩,.int .u8 5,.bool false,.int .i64 0,.int .i64 0,.string ⟨s.toArray⟩,.string ⟨#[]⟩]:=BlkV.fresh rfl _ _;have bb:=B0.out #[.string ⟨k.toArray⟩,.int .u8 5,.bool false,.int .i64 0,.int .i64 0,.string ⟨s.toArray⟩,.string ⟨#[]⟩];generalize w.alloc (.cells #[.string ⟨k.toArray⟩,.int .u8 5,.bool false,.int .i64 0,.int .i64 0,.string ⟨s.toArray⟩,.string ⟨#[]⟩] 31)=w0 at *;have c0:=KK.at_ 0 rfl;have c1:=KK.at_ 1 rfl;have c2:=KK.at_ 2 rfl;have c3:=KK.at_ 3 rfl;have c4:=KK.at_ 4 rfl;have c5:=KK.at_ 5 rfl;have c6:=KK.at_ 6 rfl;exact bodyPost_ret (v:=.agg #[.string ⟨k.toArray⟩,.int .u8 5,.bool false,.int .i64 0,.int .i64 0,.string ⟨s.toArray⟩,.string ⟨#[]⟩]) (by simp [results,Tryz.results138,go_sem,c0,c1,c2,c3,c4,c5,c6]) rfl ⟨rfl,bb⟩
theorem kwhole_any (k:List UInt8) (n:Int) (w:World) :
  Calls Tryz.prog 178 #[.string ⟨k.toArray⟩,.int .i64 n] w fun e w'=>e=.returned (.agg #[.string ⟨k.toArray⟩,.int .u8 3,.bool false,.int .i64 n,.int .i64 0,.string ⟨#[]⟩,.string ⟨#[]⟩])∧Below w.heap.size w w':=by
 have B0:Hid (∀ cs,Below w.heap.size w (w.alloc (.cells cs 31))):=fun cs=>blw1 _ _;go_enter Tryz.func178,Tryz.ntmps178
 go_wp2
 have KK:BlkV (w.alloc (.cells #[.string ⟨k.toArray⟩,.int .u8 3,.bool false,.int .i64 n,.int .i64 0,.string ⟨#[]⟩,.string ⟨#[]⟩] 31)) w.heap.size 31 #[.string ⟨k.toArray⟩,.int .u8 3,.bool false,.int .i64 n,.int .i64 0,.string ⟨#[]⟩,.string ⟨#[]⟩]:=BlkV.fresh rfl _ _;have bb:=B0.out #[.string ⟨k.toArray⟩,.int .u8 3,.bool false,.int .i64 n,.int .i64 0,.string ⟨#[]⟩,.string ⟨#[]⟩];generalize w.alloc (.cells #[.string ⟨k.toArray⟩,.int .u8 3,.bool false,.int .i64 n,.int .i64 0,.string ⟨#[]⟩,.string ⟨#[]⟩] 31)=w0 at *;have c0:=KK.at_ 0 rfl;have c1:=KK.at_ 1 rfl;have c2:=KK.at_ 2 rfl;have c3:=KK.at_ 3 rfl;have c4:=KK.at_ 4 rfl;have c5:=KK.at_ 5 rfl;have c6:=KK.at_ 6 rfl;exact bodyPost_ret (v:=.agg #[.string ⟨k.toArray⟩,.int .u8 3,.bool false,.int .i64 n,.int .i64 0,.string ⟨#[]⟩,.string ⟨#[]⟩]) (by simp [results,Tryz.results178,go_sem,c0,c1,c2,c3,c4,c5,c6]) rfl ⟨rfl,bb⟩
def lastS:List UInt8:=69 :: 78 :: 68 :: List.replicate 77 32
theorem rep77 (W:World):Calls Tryz.prog 140 #[.string ⟨#[32]⟩,.int .i64 77] W fun e w'=>e=.returned (.string ⟨(List.replicate 77 (32:UInt8)).toArray⟩)∧Below W.heap.size W w':=by
 have h:=Tryz.strings_Repeat ⟨#[32]⟩ 77 W (by omega) (by show 1 * _≤_; omega);rw [← repl_one];exact h
theorem last_app:ByteArray.mk #[69,78,68] ++ ByteArray.mk (List.replicate 77 (32:UInt8)).toArray=ByteArray.mk lastS.toArray:=by
 have h:=q0i [69,78,68] (List.replicate 77 32);exact h
theorem last_any (w:World) :
  Calls Tryz.prog 142 #[] w fun e w'=>e=.returned (.string ⟨lastS.toArray⟩)∧Below w.heap.size w w':=by
 have HR:=Lib.hid rep77;have LA:=Lib.hid last_app;have hln:(List.replicate 77 (32:UInt8)).length=77:=List.length_replicate;generalize List.replicate 77 (32:UInt8)=sp at *;go_enter Tryz.func142,Tryz.ntmps142
 go_wp2_with fail
 refine (HR.out _).mono ?_;rintro x w1 ⟨rfl,hb⟩;go_wp2
 rw [LA.out];go_ret
 exact ⟨rfl,hb⟩
theorem quoN (n:Nat):((n:Int)+2880 - 1).tdiv 2880 * 2880=(blkN n:Int):=by
 unfold blkN;rw [Int.tdiv_eq_ediv_of_nonneg (by omega)];omega
theorem fill_any (l:List UInt8) (A:Option Addr) (B c:Nat) (x:UInt8) (hl:l.length≤900000) (w:World) (h:RdV w B A (Lib.byteCells l)) :
  Calls Tryz.prog 141 #[.slice A l.length c,.int .u8 (x.toNat:Int)] w fun e w'=>∃ g,e=.returned (.slice (some ⟨g,0,none⟩) (fillS l x).length (fillS l x).length)∧w.heap.size≤g∧BlkV w' g 5 (Lib.byteCells (fillS l x)).toArray∧Below w.heap.size w w':=by
 have RD:=Lib.hid h;have hN1:=blkN_le l.length;have hN2:=blkN_up l.length;have hq0:=quoN l.length;have SE:=Lib.hid (stF_end l x);have ST:=Lib.hid (stF_step l x (blkN l.length));have hfl:=stF_len l x (blkN l.length) (blkN l.length) hN1 (Nat.le_refl _);rw [SE.out] at hfl;rw [hfl,← SE.out];clear h SE hfl;have hx:(x.toNat:Int) < 256:=(by have:=x.toNat_lt; omega);generalize blkN l.length=N at *;have hmk:=mk_bytes N (by omega);have CP:=Lib.hid (fun W g ty=>cp_bytes l A B c g N ty W);have hzd:stF l 0 N l.length=stF l x N l.length:=(by unfold stF; rw [Nat.sub_self,List.replicate_zero,List.replicate_zero]);rw [hzd] at CP;have i1:IntKind.i64.wrap (N:Int)=N:=IntWalk.i64_in _ (by omega);clear hzd;go_enter Tryz.func141,Tryz.ntmps141
 go_wp2
 obtain ⟨W1,hrun,hbk,hbl⟩:=CP.out (w.alloc (.cells (zb N) 5)) w.heap.size 3 (RD.out.alloc _) (BlkV.fresh rfl _ _) hN1;have KB:=Lib.hid hbk;have HB:Hid (Below w.heap.size w W1):=(blw1 w _).trans (hbl _ (Nat.le_refl _));rw [hrun];clear hrun hbk hbl CP hmk RD;go_wp2
 go_loopw [7] (fun s7 wr=>∃ i:Nat,l.length≤i∧i≤N∧s7=.int .i64 i∧BlkV wr w.heap.size 5 (Lib.byteCells (stF l x N i)).toArray∧Below w.heap.size w wr) (fun v _=>N - (RowKit.intOf v).toNat)
 case atStart=>exact ⟨l.length,Nat.le_refl _,hN1,rfl,KB.out,HB.out⟩
 case round=>
  obtain ⟨i,hi1,hi2,rfl,hbk,hbw⟩:=hrel;replace KB:=Lib.hid hbk;replace HB:=Lib.hid hbw;clear hbk hbw;by_cases hlt:i < N
  ·have tk:decide ((i:Int) < (N:Int))=true:=decide_eq_true (by omega);have fz:=KB.out.frozen i;obtain ⟨v0,cc⟩:∃ v,wr.cell? ⟨w.heap.size,i,none⟩=some v:=⟨_,KB.out.at_ i (bc_get_arr _ i (by rw [stF_len l x N i hi1 hi2]; exact hlt))⟩;have PU:=Lib.hid (KB.out.put i _ (ST.out i hi1 hlt));have HP:=Lib.hid (HB.out.setCell (p:=⟨w.heap.size,i,none⟩) (Nat.le_refl _) (.int .u8 (x.toNat:Int)));have i2:IntKind.i64.wrap ((i:Int)+1)=(i:Int)+1:=IntWalk.i64_in _ (by omega);have tl:decide ((0:Int)≤(i:Int))=true:=decide_eq_true (by omega);go_wp2
   go_roundw
   case rel=>exact ⟨i+1,by omega,by omega,by go_num,PU.out,HP.out⟩
   case measure=>simp [RowKit.intOf]; omega
  ·have tk:decide ((i:Int) < (N:Int))=false:=decide_eq_false (by omega);obtain rfl:i=N:=by omega
   go_wp2
   go_ret
   exact ⟨w.heap.size,rfl,Nat.le_refl _,KB.out,HB.out⟩
end Go.Proofs.YtcpofeehpijbcaaGreatDoor
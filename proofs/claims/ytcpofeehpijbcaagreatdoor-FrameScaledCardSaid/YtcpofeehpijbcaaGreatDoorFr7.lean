import Derived.Test.YtcpofeehpijbcaaGreatDoorFr2
import Derived.Shelf.Spec.SlicesGrow
import Derived.Deep.Upon
set_option maxHeartbeats 4000000
set_option maxRecDepth 100000
namespace Go.Proofs.YtcpofeehpijbcaaGreatDoor
open Go.RowKit Go.Lib Go.Shelf
attribute [local go_sem ↓] Go.wp_at_zero Go.wp_at_succ
def growC_ren:Go.Shelf.Ren:=⟨fun | 4=>177 | n=>n,fun | 0=>0 | 3=>3 | 4=>4 | 9=>9 | 20=>20 | 22=>22 | 25=>31 | n=>n,fun | n=>n⟩
theorem growC:Go.Proofs.Lays8.n4 Tryz.prog growC_ren:={
 mixed:=by kernel_rfl
 f4:=⟨Tryz.f177.name,by decide,Tryz.func177.trans (congrArg some (by kernel_rfl))⟩
 t0:=Tryz.underlying0
 a0:=Tryz.isAgg0
 z0:=Tryz.sizeOf0
 v0:=Tryz.zeroValue0
 t3:=Tryz.underlying3
 a3:=Tryz.isAgg3
 z3:=Tryz.sizeOf3
 v3:=Tryz.zeroValue3
 t4:=Tryz.underlying4
 a4:=Tryz.isAgg4
 z4:=Tryz.sizeOf4
 v4:=Tryz.zeroValue4
 t9:=Tryz.underlying9
 a9:=Tryz.isAgg9
 z9:=Tryz.sizeOf9
 v9:=Tryz.zeroValue9
 t20:=Tryz.underlying20
 a20:=Tryz.isAgg20
 z20:=Tryz.sizeOf20
 v20:=Tryz.zeroValue20
 t22:=Tryz.underlying22
 a22:=Tryz.isAgg22
 z22:=Tryz.sizeOf22
 v22:=Tryz.zeroValue22 }
theorem infoC:∃ i z,Tryz.prog.info? 31 = some i∧i.zero=some z∧z.cells.size=7∧i.size=7∧i.bytes=72:=by
 have hm:(Tryz.prog.info? 31).map (fun i=>(i.zero.map (fun z=>z.cells.size),i.size,i.bytes))=some (some 7,7,72):=(by kernel_rfl);revert hm
 generalize Tryz.prog.info? 31 = I;intro hm
 cases I with
 | none=>cases hm
 | some i=>
  cases hz:i.zero with
  | none=>simp [hz] at hm
  | some z=>
   simp only [Option.map_some,hz,Option.some.injEq,Prod.mk.injEq] at hm;exact ⟨i,z,rfl,hz,hm⟩
theorem cells7 (c:CD):c.cells.length=7:=rfl
theorem cds7 (cs:List CD):(cs.flatMap CD.cells).length=cs.length * 7:=by
 induction cs with
 | nil=>rfl
 | cons x l ih=>rw [List.flatMap_cons,List.length_append,ih,cells7,List.length_cons]; omega
theorem one7 (cs:List CD):∀ u∈cs.flatMap CD.cells,u.oneCell'=true:=by
 intro u hu;obtain ⟨x,-,hx⟩:=List.mem_flatMap.1 hu;simp only [CD.cells,List.mem_cons,List.not_mem_nil,or_false] at hx;rcases hx with rfl | rfl | rfl | rfl | rfl | rfl | rfl <;> rfl
theorem grow_any (n:Nat) (hn:n≤1000000) (w:World) :
  Calls Tryz.prog 177 #[.slice none 0 0,.int .i64 (n:Int)] w fun e w'=>∃ v,e=.returned v∧w'.ownsRow w.heap.size 31 7 v 0 []∧Below w.heap.size w w':=by
 obtain ⟨i,z,hi,hz,hzs,hsz,hby⟩:=infoC;by_cases h0:n=0
 ·subst h0;refine (Any8.slices_Grow_room growC none 0 0 0 w (by omega) (by omega) (by omega) (by omega)).mono ?_;rintro e w' ⟨rfl,rfl⟩;exact ⟨_,rfl,World.ownsRow_nil _ _ _ _,Below.refl _ _⟩
 ·refine (Any8.slices_Grow_grow growC i z hi hz (by omega) none 0 0 n [] w (by omega) (by omega) (by rw [hby]; omega) (by omega) (by simp) (fun _=>rfl) (fun a h=>by cases h)).mono ?_;rintro e w' ⟨rfl,rfl⟩;refine ⟨_,rfl,?_,?_⟩
  ·have hge:=grownCap_ge w (0+n) 0 31;have hle:=grownCap_le_maxLen w (0+n) 0 31 (by unfold maxLen; omega);refine World.ownsRow_made w.drew _ _ (Nat.le_refl _) hle ?_;simp only [Array.size_append,List.size_toArray,List.length_nil,size_zeroCells,hzs];show 0+(0+n - 0) * 7+(grownCap w (0+n) 0 31 - (0+n)) * 7=grownCap w (0+n) 0 31 * 7
   omega
  ·exact (Below.refl _ _).drew.alloc (Nat.le_refl _) _
theorem app_cards (ty B0 B:Nat) (A:Option Addr) (cs:List CD) (c:Nat) (v:Value) (n:Nat) (xs:List Value) (w:World) (hs:SlC w B A cs c) (ho:w.ownsRow B0 31 7 v n xs) (hn:n+cs.length≤1000000) (hB:B0≤w.heap.size) :
  ∃ v' w',(Builtin.append_ #[22,22] ty #[v,.slice A cs.length c]).run Tryz.prog w=.ok v' w'∧w'.ownsRow B0 31 7 v' (n+cs.length) (xs ++ cs.flatMap CD.cells)∧(∀ B',B'≤B0→Below B' w w'):=by
 obtain ⟨i,z,hi,hz,hzs,hsz,hby⟩:=infoC
 cases cs with
 | nil=>
  have hr:(Builtin.append_ #[22,22] ty #[v,.slice A 0 c]).run Tryz.prog w=.ok v w:=by
   have hsrc:Src Tryz.prog i.size 22 (.slice A 0 c) 0 [] w:=by
    cases A with
    | none=>exact Src.ofNil w Tryz.underlying22 c
    | some a=>exact Src.ofSlice w Tryz.underlying22 a 0 c [] (by simp) (fun j u h=>by simp at h) (fun u h=>by cases h)
   rcases ho.2 with ⟨rfl,rfl⟩ | ⟨g,cap,cur,rfl,_,_,hnc,_⟩
   ·exact run_append_nothing w 22 22 ty 31 i Tryz.underlying22 hi none 0 0 (Nat.le_refl _) _ hsrc
   ·exact run_append_nothing w 22 22 ty 31 i Tryz.underlying22 hi _ n cap hnc _ hsrc
  refine ⟨v,w,hr,?_,fun B' _=>Below.refl _ _⟩;simpa using ho
 | cons x l=>
  obtain ⟨b,q,rfl,-,hc⟩:=hs.rd (by rw [cds7]; simp);obtain ⟨v',w',hr,ho',hg,-⟩:=run_append_own (P:=Tryz.prog) w B0 22 ty 31 i z 7 72 Tryz.underlying22 hi hz hsz hby hzs (by omega) v n xs ho ⟨b,q,none⟩ (x :: l).length c _ (cds7 _) (fun j u hu=>by rw [Addr.add_lit]; exact hc j u hu) (one7 _) (by unfold maxLen; omega) (by omega) hB;refine ⟨v',w',hr,ho',fun B' hB'=>?_⟩;exact (Below.refl _ _).grown hg (by omega) (fun k hk=>by have:=(World.ownsRow.lt ho k hk).1; omega)
structure SC where
 a:Option Addr
 c:Nat
 cs:List CD
def SC.val (x:SC):Value:=.slice x.a x.cs.length x.c
def allC (L:List SC):List CD:=L.flatMap SC.cs
theorem allC_step (L:List SC) (k:Nat) (hk:k < L.length):allC (L.take (k+1))=allC (L.take k) ++ (L[k]'hk).cs:=by
 unfold allC; rw [← List.take_append_getElem hk,List.flatMap_append]; simp
theorem allC_le (L:List SC) (k:Nat):(allC (L.take k)).length≤(allC L).length:=by
 unfold allC;conv=>rhs; rw [← List.take_append_drop k L,List.flatMap_append,List.length_append]
 omega
theorem flat_app (a b:List CD):a.flatMap CD.cells ++ b.flatMap CD.cells=(a ++ b).flatMap CD.cells:=by rw [List.flatMap_append]
theorem concat_any (L:List SC) (B0 B b0 c0:Nat) (w:World) (hL:RdV w B0 (some ⟨b0,0,none⟩) (L.map SC.val)) (hs:∀ x∈L,SlC w B x.a x.cs x.c) (h1:L.length≤1000) (h2:(allC L).length≤100000) :
  Calls Tryz.prog 136 #[.slice (some ⟨b0,0,none⟩) L.length c0] w fun e w'=>∃ v,e=.returned v∧w'.ownsRow w.heap.size 31 7 v (allC L).length ((allC L).flatMap CD.cells)∧Below w.heap.size w w':=by
 have GR:=Lib.hid grow_any;have ST:=Lib.hid (allC_step L);have LE:=Lib.hid (allC_le L);have HS:=Lib.hid hs
 have CE:Hid (∀ k (hk:k < L.length),w.cell? ⟨b0,k,none⟩=some (.slice (L[k]'hk).a (L[k]'hk).cs.length (L[k]'hk).c)):=fun k hk=>by
  obtain ⟨b,q,e,-,hc⟩:=hL.at_ (k:=k) (by rw [List.length_map]; exact hk);cases e
  rw [Nat.zero_add] at hc;rw [hc,List.getElem_map];rfl
 clear hs hL;go_enter Tryz.func136,Tryz.ntmps136
 go_wp2
 go_loopw [3,11] (fun s3 s11 wr=>∃ k:Nat,k≤L.length∧s3=.int .i64 ((allC (L.take k)).length:Int)∧s11=.int .i64 k∧wr=w) (fun _ v _=>L.length - (RowKit.intOf v).toNat)
 case atStart=>exact ⟨0,Nat.zero_le _,rfl,rfl,rfl⟩
 case round=>
  obtain ⟨k,hk,rfl,rfl,hw⟩:=hrel;replace hw:=hw.symm;subst hw;by_cases hlt:k < L.length
  ·have tk:decide ((k:Int) < (L.length:Int))=true:=decide_eq_true (by omega);have ck:=CE.out k hlt;have st:=ST.out k hlt;have le:=LE.out (k+1);rw [st,List.length_append] at le;have E1:Hid ((allC (L.take (k+1))).length=(allC (L.take k)).length+(L[k]'hlt).cs.length):=(by unfold Hid; rw [st,List.length_append]);clear st;generalize (L[k]'hlt).cs.length=m at *;generalize (L[k]'hlt).a=A at *;generalize (L[k]'hlt).c=c at *;generalize hp:(allC (L.take k)).length=p at *;clear hp;have i1:IntKind.i64.wrap ((p:Int)+(m:Int))=(p:Int)+(m:Int):=IntWalk.i64_in _ (by omega);have i2:IntKind.i64.wrap ((k:Int)+1)=(k:Int)+1:=IntWalk.i64_in _ (by omega);have tz:decide ((p:Int)+(m:Int) < 0)=false:=decide_eq_false (by omega);have tn:decide ((0:Int)≤(k:Int))=true:=decide_eq_true (by omega);go_wp2
   go_roundw
   case rel=>exact ⟨k+1,by omega,by rw [E1.out]; go_num,by go_num,trivial⟩
   case measure=>simp [RowKit.intOf]; omega
  ·have tk:decide ((k:Int) < (L.length:Int))=false:=decide_eq_false (by omega);have ek:L.take k=L:=List.take_of_length_le (by omega);rw [ek];clear ek;go_wp2_with fail
   refine (GR.out _ (by omega) _).mono ?_;rintro e w1 ⟨v,rfl,ho,hb⟩;have HO:=Lib.hid ho;have HB:=Lib.hid hb;clear ho hb GR;go_wp2
   go_loopw [6,27] (fun s6 s27 wz=>∃ (k:Nat) (v:Value),k≤L.length∧s6=v∧s27=.int .i64 k∧wz.ownsRow w.heap.size 31 7 v (allC (L.take k)).length ((allC (L.take k)).flatMap CD.cells)∧Below w.heap.size w wz) (fun _ v _=>L.length - (RowKit.intOf v).toNat)
   case atStart=>exact ⟨0,v,Nat.zero_le _,rfl,rfl,HO.out,HB.out⟩
   case round=>
    clear HO HB;obtain ⟨j,u,hj,hu,rfl,ho,hb⟩:=hrel;replace hu:=hu.symm;subst hu;have HO:=Lib.hid ho;have HB:=Lib.hid hb;clear ho hb;by_cases hlj:j < L.length
    ·have tj:decide ((j:Int) < (L.length:Int))=true:=decide_eq_true (by omega);have cj:=q0b HB.out (CE.out j hlj);have le:=LE.out (j+1);have st:=ST.out j hlj;rw [st,List.length_append] at le
     obtain ⟨v2,w2,hr,ho2,hb2⟩:∃ v' w',(∀ ty,(Builtin.append_ #[22,22] ty #[u,.slice (L[j]'hlj).a (L[j]'hlj).cs.length (L[j]'hlj).c]).run Tryz.prog wr=.ok v' w')∧w'.ownsRow w.heap.size 31 7 v' (allC (L.take (j+1))).length ((allC (L.take (j+1))).flatMap CD.cells)∧Below w.heap.size wr w':=by
      obtain ⟨v',w',hr,ho',hb'⟩:=app_cards 0 w.heap.size B _ _ _ u _ _ wr ((HS.out _ (List.getElem_mem hlj)).below HB.out) HO.out (by omega) HB.out.size;rw [flat_app,← st,← List.length_append,← st] at ho';exact ⟨v',w',fun ty=>hr,ho',hb' _ (Nat.le_refl _)⟩
     have H2:=Lib.hid ho2;have B2:=Lib.hid (HB.out.trans hb2);have R2:=Lib.hid hr;clear ho2 hb2 hr st HO HB;generalize (L[j]'hlj).cs.length=m at *;generalize (L[j]'hlj).a=A at *;generalize (L[j]'hlj).c=c at *;have i2:IntKind.i64.wrap ((j:Int)+1)=(j:Int)+1:=IntWalk.i64_in _ (by omega);have tn:decide ((0:Int)≤(j:Int))=true:=decide_eq_true (by omega);go_wp2_with (at_builtin; refine Lib.wpList_append_run _ rfl _ _ _ _ rfl _ _ rfl rfl _ _ (R2.out _) ?_)
     go_roundw
     case rel=>exact ⟨j+1,v2,by omega,rfl,by go_num,H2.out,B2.out⟩
     case measure=>simp [RowKit.intOf]; omega
    ·have tj:decide ((j:Int) < (L.length:Int))=false:=decide_eq_false (by omega);have ej:L.take j=L:=List.take_of_length_le (by omega);rw [ej] at HO;clear ej;go_wp2
     go_ret
     exact ⟨u,rfl,HO.out,HB.out⟩
end Go.Proofs.YtcpofeehpijbcaaGreatDoor
import Derived.Test.YtcpofeehpijbcaaGreatDoorMg5
import Derived.Test.YtcpofeehpijbcaaGreatDoorCd4
import Derived.Test.YtcpofeehpijbcaaGreatDoorEphRow
set_option maxRecDepth 100000
namespace Go.Proofs.YtcpofeehpijbcaaGreatDoor
open Go.RowKit Go.Lib Go.Shelf
attribute [local go_sem ↓] Go.wp_at_zero Go.wp_at_succ
theorem szR_okSh {l:List Int} (h:0≤szR l):okSh l=true:=by
 unfold szR at h;by_cases h0:l=[]
 ·rw [h0]; rfl
 ·rw [if_neg h0] at h
  cases hk:okSh l with
  | true=>rfl
  | false=>rw [hk,if_neg (by decide)] at h; omega
structure VR (b:Int) (sh raw:List Int) (cs:List CD):Prop where
 bw:b=8∨b=16∨b=32∨b=64
 ok:okSh sh=true
 len:(raw.length:Int)=szR sh
 n:cs.length≤150
 fit:∀ x∈raw,fitK b x=true
 all:∀ x∈cs,chkC x=true∧resB x.k=false
theorem VR.of {b:Int} {sh raw:List Int} {cs:List CD} (h:chkR b sh raw cs=true):VR b sh raw cs:=by
 unfold chkR chkR1 at h;simp only [Bool.and_eq_true,Bool.or_eq_true,beq_iff_eq,decide_eq_true_eq] at h;obtain ⟨⟨⟨h1,h2⟩,h3,h4⟩,h5,h6⟩:=h;refine ⟨by rcases h1 with ((h | h) | h) | h <;> simp [h],szR_okSh h2,h3,h4,List.all_eq_true.1 h5,fun x hx=>?_⟩;have h7:=List.all_eq_true.1 h6 x hx;unfold okK9 at h7;simpa using h7
structure FrC (w:World) (B bb q:Nat) (b:Int) (sh raw:List Int) (cs:List CD) (A1 A2 A3:Option Addr) (c1 c2 c3:Nat):Prop where
 lt:bb < B
 f0:w.cell? ⟨bb,q,none⟩=some (.int .i64 b)
 f1:w.cell? ⟨bb,q+1,none⟩=some (.slice A1 sh.length c1)
 f2:w.cell? ⟨bb,q+2,none⟩=some (.slice A2 raw.length c2)
 f3:w.cell? ⟨bb,q+3,none⟩=some (.slice A3 cs.length c3)
 h1:SlI w B A1 sh c1
 h2:SlI w B A2 raw c2
 h3:SlY w B A3 cs c3
theorem FrC.below {w w':World} {B bb q:Nat} {b:Int} {sh raw:List Int} {cs:List CD} {A1 A2 A3:Option Addr} {c1 c2 c3:Nat} (h:FrC w B bb q b sh raw cs A1 A2 A3 c1 c2 c3) (hb:Below w.heap.size w w'):FrC w' B bb q b sh raw cs A1 A2 A3 c1 c2 c3:=
 ⟨h.lt,q0b hb h.f0,q0b hb h.f1,q0b hb h.f2,q0b hb h.f3,h.h1.below hb,h.h2.below hb,h.h3.below hb⟩
end Go.Proofs.YtcpofeehpijbcaaGreatDoor
namespace Go.Proofs.YtcpofeehpijbcaaGreatDoor
open Go.ChangeShapes Go.WideShapes Go.ChangeAt Go.RowKit Go.Joins Go.Deep
section
variable {H:Type} {enc:TypeId × Value→H}
theorem cells_card:Tryz.prog.cellsOf 31 = 7:=by kernel_rfl
theorem open_cards {W:World} {v:Value} {y:DataW H × List MemPlace} {fuel:Nat} (h:DataW.trod enc Tryz.prog W 0 (fun _=>true) true fuel 22 [v]=some y) (hw:∀ n∈y.1.weights Tryz.prog 22,n≤reachBytes) :
  ∃ (A:Option Addr) (cs:List CD) (c:Nat),v=.slice A cs.length c∧SlY W W.heap.size A cs c:=by
 have hEl:∀ (cs:List Value) (n:Nat) (d:DataW H) (p:List MemPlace),cs.length=7→DataW.trod enc Tryz.prog W 0 (fun _=>true) true n 31 cs=some (d,p)→(∀ k∈d.weights Tryz.prog 31,k≤reachBytes)→∃ x,cs=CD.cells x∧OkY x:=by
  intro cs n d p hl hd hw
  match cs,hl with
  | [v0,v1,v2,v3,v4,v5,v6],_=>
   obtain ⟨xs,n2,_,hx,_,hlen,hf⟩:=DataW.trod_struct Tryz.underlying31 hd
   match xs,hlen with
   | [y0,y1,y2,y3,y4,y5,y6],_=>
    have h0:=hf 0 _ rfl;have h1:=hf 1 _ rfl;have h2:=hf 2 _ rfl;have h3:=hf 3 _ rfl;have h4:=hf 4 _ rfl;have h5:=hf 5 _ rfl;have h6:=hf 6 _ rfl;clear hf;simp only [Prod.mk.injEq] at hx;obtain ⟨rfl,_⟩:=hx;simp [show Tryz.prog.cellsOf 2 = 1 by kernel_rfl,show Tryz.prog.cellsOf 3 = 1 by kernel_rfl,show Tryz.prog.cellsOf 5 = 1 by kernel_rfl,show Tryz.prog.cellsOf 4 = 1 by kernel_rfl,show Tryz.prog.cellsOf 9 = 1 by kernel_rfl] at h0 h1 h2 h3 h4 h5 h6;obtain ⟨s0,e0,a0,l0⟩:=DataW.trod_string Tryz.underlying9 h0;obtain ⟨m1,e1,a1,w1⟩:=DataW.trod_int Tryz.underlying5 h1;obtain ⟨m2,e2,a2⟩:=DataW.trod_bool Tryz.underlying4 h2;obtain ⟨m3,e3,a3,w3⟩:=DataW.trod_int Tryz.underlying2 h3;obtain ⟨m4,e4,a4,w4⟩:=DataW.trod_int Tryz.underlying3 h4;obtain ⟨s5,e5,a5,l5⟩:=DataW.trod_string Tryz.underlying9 h5;obtain ⟨s6,e6,a6,l6⟩:=DataW.trod_string Tryz.underlying9 h6;simp only [List.cons.injEq,and_true] at e0 e1 e2 e3 e4 e5 e6;subst e0 e1 e2 e3 e4 e5 e6;subst a0 a1 a2 a3 a4 a5 a6;have n0:=hw (s0.data.toList.length) (by simp [DataW.weights,DataW.weightsEach,Tryz.underlying31]);have n5:=hw (s5.data.toList.length) (by simp [DataW.weights,DataW.weightsEach,Tryz.underlying31]);have n6:=hw (s6.data.toList.length) (by simp [DataW.weights,DataW.weightsEach,Tryz.underlying31]);have b1:=bounds_u8 w1;have b3:=bounds_i64 w3;have b4:=bounds_i64 w4;have:reachBytes=140737488351232:=rfl;obtain ⟨m,rfl⟩:∃ m:Nat,m1=(m:Int):=⟨m1.toNat,by omega⟩;exact ⟨⟨s0.data.toList,m,m2,m3,m4,s5.data.toList,s6.data.toList⟩,rfl,⟨⟨by show m≤255; omega,b3.1,b3.2,b4.1,b4.2,by show s0.data.toList.length≤_; omega,by show s5.data.toList.length≤_; omega,by show s6.data.toList.length≤_; omega⟩,by show s6.data.toList.length≤_; omega,by show s5.data.toList.length≤_; omega⟩⟩
 obtain ⟨A,cs,c,e,r,q,l1,l2⟩:=open_rows (cells:=CD.cells) (m:=7) (Q:=OkY) (bt:=72) (fun _=>rfl) (by omega) Tryz.underlying22 cells_card (by kernel_rfl) (by omega) hEl h hw;exact ⟨A,cs,c,e,r,q,l1,l2⟩
end
end Go.Proofs.YtcpofeehpijbcaaGreatDoor
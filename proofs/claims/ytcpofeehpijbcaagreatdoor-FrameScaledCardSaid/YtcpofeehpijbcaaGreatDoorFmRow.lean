import Derived.Test.YtcpofeehpijbcaaGreatDoorEphRow
import Derived.Test.YtcpofeehpijbcaaGreatDoorMg6
set_option maxRecDepth 100000
namespace Go.Proofs.YtcpofeehpijbcaaGreatDoor
open Go.ChangeShapes Go.WideShapes Go.ChangeAt Go.RowKit Go.Joins Go.Deep
section
variable {H:Type} {enc:TypeId × Value→H}
theorem cells_card:Tryz.prog.cellsOf 31 = 7:=by kernel_rfl
theorem cells_int:Tryz.prog.cellsOf 3 = 1:=by kernel_rfl
theorem bytes_int:Tryz.prog.bytesOf 3 = 8:=by kernel_rfl
theorem open_ints64 {W:World} {v:Value} {y:DataW H × List MemPlace} {m:Nat}
  (h:DataW.trod enc Tryz.prog W 0 (fun _=>true) true m 50 [v]=some y)
  (hw:∀ n∈DataW.weights Tryz.prog 50 y.1,n≤reachBytes) :
  ∃ (A:Option Addr) (l:List Int) (c:Nat),v=.slice A l.length c∧SlI W W.heap.size A l c:=by
 rcases open_ints Tryz.underlying50 Tryz.underlying3 cells_int h with ⟨e1,_⟩ | ⟨a,len,cap,zs,e1,_,hl,hm,hz,hx,hcell,hwf⟩
 ·simp only [List.cons.injEq,and_true] at e1;subst e1;exact ⟨none,[],0,rfl,SlI.nil _ _ _ _⟩
 ·simp only [List.cons.injEq,and_true] at e1;subst e1;simp only [if_true] at hz
  have hlen:len * 8≤reachBytes:=by
   have:=hw ((zs.take len).length * 8+(zs.drop len).length * 8) (by
    rw [hx];simp [DataW.weights,Tryz.underlying50,bytes_int,lits,← Nat.add_mul])
   rw [List.length_take,List.length_drop] at this;omega
  have hl2:(zs.take len).length=len:=(by simp; omega);refine ⟨some a,zs.take len,cap,by rw [hl2],⟨fun hp=>?_,fun x hx=>?_,by omega,by have:reachBytes=140737488351232:=rfl; omega⟩⟩
  ·rw [cI_length,hl2] at hp;obtain ⟨b,off,spot⟩:=a;have hspot:spot=none:=(by simpa [Addr.add] using World.cell?_spot (hcell 0 (by omega)));subst hspot
   have hc:∀ i v,(cI (zs.take len))[i]? = some v→W.cell? ⟨b,off+i,none⟩=some v:=fun i v hv=>by
    have hi:i < len:=by
     have:=(List.getElem?_eq_some_iff.1 hv).1;rwa [cI_length,hl2] at this
    have h1:=hcell i (by omega);rw [add_plain] at h1;rw [h1,← hv];simp [cI,List.getElem?_take_of_lt hi,List.getElem?_eq_getElem (show i < zs.length by omega)]
   refine ⟨b,off,rfl,?_,hc⟩;have:=lt_of_cell (hc 0 _ (List.getElem?_eq_getElem (by rw [cI_length,hl2]; exact hp)));simpa using this
  ·exact bounds_i64 (hwf x (List.mem_of_mem_take hx))
theorem open_cards {W:World} {v:Value} {y:DataW H × List MemPlace} {fuel:Nat} (h:DataW.trod enc Tryz.prog W 0 (fun _=>true) true fuel 22 [v]=some y) (hw:∀ n∈y.1.weights Tryz.prog 22,n≤reachBytes) :
  ∃ (A:Option Addr) (cs:List CD) (c:Nat),v=.slice A cs.length c∧SlY W W.heap.size A cs c:=by
 have hEl:∀ (cs:List Value) (n:Nat) (d:DataW H) (p:List MemPlace),cs.length=7→DataW.trod enc Tryz.prog W 0 (fun _=>true) true n 31 cs=some (d,p)→(∀ k∈d.weights Tryz.prog 31,k≤reachBytes)→∃ x,cs=CD.cells x∧OkY x:=by
  intro cs n d p hl hd hw
  match cs,hl with
  | [v0,v1,v2,v3,v4,v5,v6],_=>
   obtain ⟨xs,n2,_,hx,_,hlen,hf⟩:=DataW.trod_struct Tryz.underlying31 hd
   match xs,hlen with
   | [y0,y1,y2,y3,y4,y5,y6],_=>
    have h0:=hf 0 _ rfl;have h1:=hf 1 _ rfl;have h2:=hf 2 _ rfl;have h3:=hf 3 _ rfl;have h4:=hf 4 _ rfl;have h5:=hf 5 _ rfl;have h6:=hf 6 _ rfl;clear hf;simp only [Prod.mk.injEq] at hx;obtain ⟨rfl,_⟩:=hx;simp [show Tryz.prog.cellsOf 2 = 1 by kernel_rfl,show Tryz.prog.cellsOf 3 = 1 by kernel_rfl,show Tryz.prog.cellsOf 5 = 1 by kernel_rfl,show Tryz.prog.cellsOf 4 = 1 by kernel_rfl,show Tryz.prog.cellsOf 9 = 1 by kernel_rfl] at h0 h1 h2 h3 h4 h5 h6;obtain ⟨s0,e0,a0,l0⟩:=DataW.trod_string Tryz.underlying9 h0;obtain ⟨m1,e1,a1,w1⟩:=DataW.trod_int Tryz.underlying5 h1;obtain ⟨m2,e2,a2⟩:=DataW.trod_bool Tryz.underlying4 h2;obtain ⟨m3,e3,a3,w3⟩:=DataW.trod_int Tryz.underlying2 h3;obtain ⟨m4,e4,a4,w4⟩:=DataW.trod_int Tryz.underlying3 h4;obtain ⟨s5,e5,a5,l5⟩:=DataW.trod_string Tryz.underlying9 h5;obtain ⟨s6,e6,a6,l6⟩:=DataW.trod_string Tryz.underlying9 h6;simp only [List.cons.injEq,and_true] at e0 e1 e2 e3 e4 e5 e6;subst e0 e1 e2 e3 e4 e5 e6;subst a0 a1 a2 a3 a4 a5 a6;have n0:=hw (s0.data.toList.length) (by simp [DataW.weights,DataW.weightsEach,Tryz.underlying31]);have n5:=hw (s5.data.toList.length) (by simp [DataW.weights,DataW.weightsEach,Tryz.underlying31]);have n6:=hw (s6.data.toList.length) (by simp [DataW.weights,DataW.weightsEach,Tryz.underlying31]);have b1:=bounds_u8 w1;have b3:=bounds_i64 w3;have b4:=bounds_i64 w4;have:reachBytes=140737488351232:=rfl;obtain ⟨m,rfl⟩:∃ m:Nat,m1=(m:Int):=⟨m1.toNat,by omega⟩;exact ⟨⟨s0.data.toList,m,m2,m3,m4,s5.data.toList,s6.data.toList⟩,rfl,⟨⟨by show m≤255; omega,b3.1,b3.2,b4.1,b4.2,by show s0.data.toList.length≤_; omega,by show s5.data.toList.length≤_; omega,by show s6.data.toList.length≤_; omega⟩,by show s6.data.toList.length≤_; omega,by show s5.data.toList.length≤_; omega⟩⟩
 obtain ⟨A,cs,c,e,r,q,l1,l2⟩:=open_rows (cells:=CD.cells) (m:=7) (Q:=OkY) (bt:=72) (fun _=>rfl) (by omega) Tryz.underlying22 cells_card (by kernel_rfl) (by omega) hEl h hw;exact ⟨A,cs,c,e,r,q,l1,l2⟩
theorem open_frame {r:Reach} {b0:Nat} {W:World} {v:Value} {d:DataW H} {p:List MemPlace} (hv:Value.okWide Tryz.prog W r b0 53 v)
  (h:DataW.Trod enc Tryz.prog W 0 (fun _=>true) true 53 v d p) (hw:∀ n∈d.weights Tryz.prog 53,n≤reachBytes) :
  ∃ (b:Int) (sh raw:List Int) (cs:List CD) (A1 A2 A3:Option Addr) (c1 c2 c3:Nat),v=.agg #[.int .i64 b,.slice A1 sh.length c1,.slice A2 raw.length c2,.slice A3 cs.length c3]∧(-9223372036854775808≤b∧b≤9223372036854775807)∧SlI W W.heap.size A1 sh c1∧SlI W W.heap.size A2 raw c2∧SlY W W.heap.size A3 cs c3:=by
 obtain ⟨cs,rfl,hsz⟩:=okWide_struct Tryz.underlying53 hv;obtain ⟨l⟩:=cs
 match l,hsz.trans (show Tryz.prog.cellsOf 53 = 4 by kernel_rfl) with
 | [v0,v1,v2,v3],_=>
  obtain ⟨fuel,hf⟩:=h;obtain ⟨xs,n2,_,hx,_,hlen,hg⟩:=DataW.trod_struct Tryz.underlying53 hf
  match xs,hlen with
  | [y0,y1,y2,y3],_=>
   have h0:=hg 0 _ rfl;have h1:=hg 1 _ rfl;have h2:=hg 2 _ rfl;have h3:=hg 3 _ rfl;clear hg;simp only [Prod.mk.injEq] at hx;obtain ⟨rfl,_⟩:=hx;simp [Value.cells,show Tryz.prog.cellsOf 3 = 1 by kernel_rfl,show Tryz.prog.cellsOf 50 = 1 by kernel_rfl,show Tryz.prog.cellsOf 51 = 1 by kernel_rfl,show Tryz.prog.cellsOf 22 = 1 by kernel_rfl] at h0 h1 h2 h3;obtain ⟨m0,e0,a0,w0⟩:=DataW.trod_int Tryz.underlying3 h0;simp only [List.cons.injEq,and_true] at e0;subst e0 a0
   obtain ⟨A1,sh,c1,rfl,s1⟩:=open_ints64 h1 (fun k hk=>hw k (by
    simp [DataW.weights,DataW.weightsEach,Tryz.underlying53];exact .inl hk))
   obtain ⟨A2,raw,c2,rfl,s2⟩:=open_i64s h2 (fun k hk=>hw k (by
    simp [DataW.weights,DataW.weightsEach,Tryz.underlying53];exact .inr (.inl hk)))
   obtain ⟨A3,cs,c3,rfl,s3⟩:=open_cards h3 (fun k hk=>hw k (by
    simp [DataW.weights,DataW.weightsEach,Tryz.underlying53];exact .inr (.inr hk)))
   exact ⟨m0,sh,raw,cs,A1,A2,A3,c1,c2,c3,rfl,bounds_i64 w0,s1,s2,s3⟩
end
end Go.Proofs.YtcpofeehpijbcaaGreatDoor
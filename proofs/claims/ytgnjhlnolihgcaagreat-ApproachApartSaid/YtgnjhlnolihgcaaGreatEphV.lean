import Derived.Test.YtgnjhlnolihgcaaGreatMg8
namespace Go.Proofs.YtgnjhlnolihgcaaGreat
open Go.RowKit
def tB:Nat→Nat × Nat
 | 0=>(1,2)
 | j+1=>((tB j).2,(tB j).1+(tB j).2+5)
def dB:Nat→Nat × Nat
 | 0=>(1,1)
 | j+1=>((dB j).2,(tB j).2+(dB j).1+(dB j).2+6)
def sB (f:Nat→Nat):Nat→Nat
 | 0=>1
 | n+1=>sB f n+f n+3
theorem few_one:Few 1 (1:Rat):=⟨by decide,by decide⟩
theorem few_none:Few 1 (0:Rat):=⟨by decide,by decide⟩
theorem few_twice:Few 1 (2:Rat):=⟨by decide,by decide⟩
theorem few_minus:Few 1 (-1:Rat):=⟨by decide,by decide⟩
section
variable {x:Rat} {c:Nat→Rat} (hx:Few 2 x)
include hx
theorem chT_few:∀ j,(tB j).1+(tB j).2≤3000→Few (tB j).1 (chT x j)∧Few (tB j).2 (chT x (j+1))
 | 0,_=>⟨few_one,hx⟩
 | j+1,h=>by
  simp only [tB] at h;obtain ⟨h1,h2⟩:=chT_few j (by omega);have m1:=(q_mul hx h2 (by omega)).2;have m2:=(q_mul few_twice m1 (by omega)).2;have m3:=(q_mul few_minus h1 (by omega)).2;have m4:=(q_add m2 m3 (by omega)).2;exact ⟨h2,m4.up (by simp only [tB]; omega)⟩
theorem chD_few:∀ j,(tB j).1+(tB j).2≤3000→(tB j).2+(dB j).1+(dB j).2≤3000→(∀ i,i≤j→(tB i).1+(tB i).2≤3000∧(tB i).2+(dB i).1+(dB i).2≤3000)→Few (dB j).1 (chD x j)∧Few (dB j).2 (chD x (j+1))
 | 0,_,_,_=>⟨few_none,few_one⟩
 | j+1,_,_,ha=>by
  obtain ⟨h1,h2⟩:=chD_few j (ha j (by omega)).1 (ha j (by omega)).2 (fun i hi=>ha i (by omega));obtain ⟨-,t⟩:=chT_few hx j (ha j (by omega)).1;have hb:=(ha j (by omega)).2;have m1:=(q_mul hx h2 (by omega)).2;have m2:=(q_add t m1 (by omega)).2;have m3:=(q_mul few_twice m2 (by omega)).2;have m4:=(q_mul few_minus h1 (by omega)).2;have m5:=(q_add m3 m4 (by omega)).2;exact ⟨h2,m5.up (by simp only [dB]; omega)⟩
end
theorem chS_few {c P:Nat→Rat} {f:Nat→Nat} (hc:∀ k,Few 2 (c k)):∀ n,(∀ k,k < n→Few (f k) (P k))→(∀ k,k≤n→sB f k≤3000)→(∀ k,k < n→f k≤1000)→Few (sB f n) (chS c P n)
 | 0,_,_,_=>few_none
 | n+1,hP,hs,hf=>by
  have ih:=chS_few hc n (fun k hk=>hP k (by omega)) (fun k hk=>hs k (by omega)) (fun k hk=>hf k (by omega));have b1:=hs n (by omega);have b2:=hf n (by omega);have m1:=(q_mul (hc n) (hP n (by omega)) (by omega)).2;have m2:=(q_add ih m1 (by omega)).2;exact m2.up (by simp only [sB]; omega)
structure FewV (l:List Int) (x:Rat) (j:Nat):Prop where
 t:Few 700 (chT x j)
 d:Few 700 (chD x j)
 s:Few 700 (chS (cfQ l) (chT x) j)
 e:Few 700 (chS (cfQ l) (chD x) j)
theorem few_v {l:List Int} {x:Rat} (hc:∀ k,Few 2 (cfQ l k)) (hx:Few 2 x) {j:Nat} (hj:j≤6):FewV l x j:=by
 have a:∀ i,i≤6→(tB i).1+(tB i).2≤3000∧(tB i).2+(dB i).1+(dB i).2≤3000:=(by decide);have b:∀ i,i≤6→(tB i).1≤700∧(dB i).1≤700∧sB (fun i=>(tB i).1) i≤700∧sB (fun i=>(dB i).1) i≤700:=(by decide);have hT:∀ i,i≤6→Few (tB i).1 (chT x i):=fun i hi=>(chT_few hx i (a i hi).1).1;have hD:∀ i,i≤6→Few (dB i).1 (chD x i):=fun i hi=>(chD_few hx i (a i hi).1 (a i hi).2 (fun k hk=>a k (by omega))).1;have hb:=b j hj
 exact ⟨(hT j hj).up hb.1,(hD j hj).up hb.2.1,
  (chS_few hc j (fun k hk=>hT k (by omega)) (fun k hk=>by have:=(b k (by omega)).2.2.1; omega) (fun k hk=>by have:=(b k (by omega)).1; omega)).up hb.2.2.1,
  (chS_few hc j (fun k hk=>hD k (by omega)) (fun k hk=>by have:=(b k (by omega)).2.2.2; omega) (fun k hk=>by have:=(b k (by omega)).2.1; omega)).up hb.2.2.2⟩
noncomputable def hasE (bs:List BG) (i:Int):Int:=if chkE bs=0 then (if 0≤i∧i < bs.length then 0 else 6) else chkE bs
theorem getB_some {bs:List BG} {i:Int} (h:0≤i∧i < bs.length):getB bs i=some (bs[i.toNat]'(by omega)):=by
 unfold getB; rw [if_pos h.1,List.getElem?_eq_getElem]
theorem getB_none {bs:List BG} {i:Int} (h:¬ (0≤i∧i < bs.length)):getB bs i=none:=by
 unfold getB;split
 ·rw [List.getElem?_eq_none]; omega
 ·rfl
end Go.Proofs.YtgnjhlnolihgcaaGreat
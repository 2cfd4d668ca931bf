import Derived.Test.YtgnjhlnolihgcaaGreatW10
import Derived.Deep.QuietTactic
set_option maxHeartbeats 4000000
set_option maxRecDepth 100000
namespace Go.Proofs.YtgnjhlnolihgcaaGreat
open Lib renaming hid → lh
open Go.RowKit
def SubRes (u v:List Nat) (q g:Nat) (w:World):Ending→World→Prop:=fun e w'=>
 ∃ o,e=.returned (.bool (decide (q * val v≤val u)))∧Bx w' g o∧o.length=u.length∧Lim o∧(q * val v≤val u→val o=val u - q * val v)∧But g w w'
theorem subtract_any (g cu:Nat) (u v:List Nat) (A:Option Addr) (c q:Nat) (w:World) (hu:Bx w g u) (hul:Lim u) (hs:Sl w A v c) (hf:∀ ad,A=some ad→ad.block≠g) (hlu:u.length=v.length+1) (hlen:v.length≤1000000) (hq:q < 4294967296) :
  Calls Tryz.prog 229 #[.slice (some ⟨g,0,none⟩) u.length cu,.slice A v.length c,.int .u32 q] w (SubRes u v q g w):=by
 have Hu:=lh hu;have Hul:=lh hul;have Hs:=lh hs;have Hf:=lh hf;clear hu hul hs hf;rw [hlu];go_enter Tryz.func229,Tryz.ntmps229
 go_wp2
 go_loopw [7,8,9,10,14,26] (fun cy bw _ _ i _ wr=>∃ (k cr b:Nat) (o:List Nat),k≤v.length∧i=.int .i64 k∧cy=.int .u64 cr∧cr < 4294967296∧bw=.int .u32 b∧b≤1∧o.length=v.length+1∧Lim o∧Bx wr g o∧pv o k+q * pv v k=pv u k+(b+cr) * 4294967296 ^ k∧(∀ j,k≤j→o[j]?.getD 0=u[j]?.getD 0)∧But g w wr) (fun _ _ _ _ i _ _=>v.length - (intOf i).toNat)
 case atStart=>exact ⟨0,0,0,u,Nat.zero_le _,rfl,rfl,by omega,rfl,by omega,hlu,Hul.out,Hu.out,by simp [pv_zero],fun _ _=>rfl,But.refl _ _⟩
 case round=>
  obtain ⟨k,cr,b,o,hk,rfl,rfl,hcr,rfl,hb1,hol,holim,hblk,hsum,hsame,hb⟩:=hrel;have Hol:=lh hol;have Hlim:=lh holim;have Hblk:=lh hblk;have Hsum:=lh hsum;have Hsame:=lh hsame;have Hb:=lh hb;clear hol holim hblk hsum hsame hb;by_cases hlt:k < v.length
  ·obtain ⟨b1,o1,rfl,hy1⟩:=(Hs.out.but Hf.out Hb.out).rd.at_ (k:=k) hlt;have hy2:=q0e Hs.out.lim k;have hx2:=q0e Hlim.out k;have hcell:wr.cell? ⟨g,k,none⟩=some (.int .u32 (o[k]?.getD 0:Nat)):=Hblk.out.cell (by rw [Hol.out]; omega);have hfr:wr.frozen? ⟨g,k,none⟩=false:=Hblk.out.frozen k;have Hst:=lh (msub_step (o:=o) (u:=u) (v:=v) (q:=q) (d:=(o[k]?.getD 0+8589934592 - (cr+q * v[k]?.getD 0) % 4294967296 - b) % 4294967296) (by rw [Hol.out]; omega) (sub_eq hx2 (Nat.mod_lt _ (by omega)) hb1) (Hsame.out k (Nat.le_refl _)) Hsum.out);have hmul:=mul_u64 hq hy2;have hmle:=mul_le hq hy2;generalize v[k]?.getD 0=y at *;generalize hx:o[k]?.getD 0=x at *;generalize q * y=p at *;have hcp:Hid ((cr+p) / 4294967296 < 4294967296):=(by unfold Hid; omega);have hm32:(cr+p) % 4294967296 < 4294967296:=Nat.mod_lt _ (by omega);have Hq:Hid (subB x ((cr+p) % 4294967296) b≤1):=(by unfold Hid subB; split <;> omega);go_wp2_with fail
   refine (sub32_any x ((cr+p) % 4294967296) b hx2 hm32 hb1 _).mono ?_;rintro e w1 ⟨rfl,rfl⟩;go_wp2
   go_roundw
   case rel=>exact ⟨k+1,(cr+p) / 4294967296,_,o.set k ((x+8589934592 - (cr+p) % 4294967296 - b) % 4294967296),by omega,by go_num,int_eq (by omega),hcp.out,rfl,Hq.out,by rw [List.length_set]; exact Hol.out,q1c Hlim.out (Nat.mod_lt _ (by omega)),Hblk.out.set rfl (by rw [Hol.out]; omega),Hst.out,fun j hj=>by rw [getD_set_ne (by omega)]; exact Hsame.out j (by omega),Hb.out.set _ rfl _⟩
   case measure=>simp [intOf]; omega
  ·obtain rfl:k=v.length:=by omega
   have hx2:=q0e Hlim.out v.length;have hcell:wr.cell? ⟨g,v.length,none⟩=some (.int .u32 (o[v.length]?.getD 0:Nat)):=Hblk.out.cell (by rw [Hol.out]; omega);have hfr:wr.frozen? ⟨g,v.length,none⟩=false:=Hblk.out.frozen _;have Hst:=lh (msub_last (o:=o) (u:=u) (v:=v) (q:=q) (d:=(o[v.length]?.getD 0+8589934592 - cr - b) % 4294967296) (by rw [Hol.out]; omega) Hol.out hlu (Nat.le_refl _) (sub_eq hx2 hcr hb1) (Hsame.out _ (Nat.le_refl _)) Hsum.out);generalize hx:o[v.length]?.getD 0=x at *;have Hq:Hid (subB x cr b≤1):=(by unfold Hid subB; split <;> omega);have Hend:=lh (msub_end (q1c Hlim.out (Nat.mod_lt (x+8589934592 - cr - b) (by omega))) (by rw [List.length_set]; exact Hol.out) Hq.out Hst.out)
   have Hres:Hid ((((subB x cr b:Nat):Int) == 0)=decide (q * val v≤val u)):=by
    unfold Hid;rw [decide_eq_decide.2 Hend.out.1];by_cases h0:subB x cr b=0
    ·rw [decide_eq_true h0,beq_iff_eq,h0]; rfl
    ·rw [decide_eq_false h0,beq_eq_false_iff_ne]; omega
   go_wp2_with fail
   refine (sub32_any x cr b hx2 hcr hb1 _).mono ?_;rintro e w1 ⟨rfl,rfl⟩;go_wp2
   go_ret
   exact ⟨o.set v.length ((x+8589934592 - cr - b) % 4294967296),by rw [Hres.out]; rfl,Hblk.out.set rfl (by rw [Hol.out]; omega),by rw [List.length_set,hlu]; exact Hol.out,q1c Hlim.out (Nat.mod_lt _ (by omega)),fun hle=>Hend.out.2 (Hend.out.1.1 hle),Hb.out.set _ rfl _⟩
end Go.Proofs.YtgnjhlnolihgcaaGreat
namespace Go.Proofs.YtgnjhlnolihgcaaGreat
open Lib renaming hid → lh
open Go.RowKit
def StepRes (U:List Nat) (j:Nat) (v:List Nat) (g:Nat) (w:World):Ending→World→Prop:=fun e w'=>
 ∃ s,e=.returned (.int .u32 (val ((U.drop j).take (v.length+1)) / val v:Nat))∧s.length=v.length+1∧Lim s∧val s=val ((U.drop j).take (v.length+1)) % val v∧Bx w' g (seg U j s)∧But g w w'
theorem hsz32:(Tryz.prog.info? 146).map (·.size)=some 1:=by
 obtain ⟨i0,hi,hz0,hz1,hz2⟩:=info_parts info32;rw [hi,Option.map_some,hz1]
theorem step_any (g j n cu:Nat) (U v:List Nat) (A:Option Addr) (c:Nat) (w:World) (hU:Bx w g U) (hUl:Lim U) (hs:Sl w A v c) (hn:v.length=n) (hn2:2≤n) (hlen:n≤1000000) (hj:j+(n+1)≤U.length) (hcu:n+1≤cu)
  (htop:0 < v[n - 1]?.getD 0) (hlt:val ((U.drop j).take (n+1)) < val v * 4294967296) :
  Calls Tryz.prog 196 #[.slice (some ⟨g,j,none⟩) (n+1) cu,.slice A n c] w (StepRes U j v g w):=by
 subst hn;have Hrd:=lh (hU.rd j (v.length+1));have Hul:Hid (Lim ((U.drop j).take (v.length+1))):=lim_take (lim_drop hUl j) _;have Hlu:Hid (((U.drop j).take (v.length+1)).length=v.length+1):=(by unfold Hid; rw [List.length_take,List.length_drop]; omega);have HU:=lh hU;have Hs:=lh hs;unfold StepRes;generalize hu:(U.drop j).take (v.length+1)=u at *
 have hcl:∀ (W:World) (A:Option Addr) (c:Nat),Sl W A u c→Calls Tryz.prog 127 #[.slice A (v.length+1) c] W fun e w'=>∃ A' c',e=.returned (.slice A' (v.length+1) c')∧Ow w' W.heap.size 146 (.slice A' (v.length+1) c') u∧Below W.heap.size W w':=by
  intro W A c h;have:=clone_any A u c W h;rw [Hlu.out] at this;exact this
 have hvpos:0 < val v:=by
  rcases Nat.eq_zero_or_pos (val v) with h0 | h0
  ·rw [h0] at hlt; omega
  ·exact h0
 have Hvpos:=lh hvpos;have Hq0:=lh (digit_lt hlt);have Hdl:=lh (digit_le (n:=v.length) (by omega) Hlu.out rfl Hul.out htop)
 have hu1:w.cell? ⟨g,j+v.length,none⟩=some (.int .u32 (u[v.length]?.getD 0:Nat)):=by
  rw [HU.out.cell (by omega),← hu,List.getElem?_take_of_lt (by omega),List.getElem?_drop]
 have hu2:w.cell? ⟨g,j+(v.length - 1),none⟩=some (.int .u32 (u[v.length - 1]?.getD 0:Nat)):=by
  rw [HU.out.cell (by omega),← hu,List.getElem?_take_of_lt (by omega),List.getElem?_drop]
 have hx1:=q0e Hul.out v.length;have hx2:=q0e Hul.out (v.length - 1);have hy2:=q0e Hs.out.lim (v.length - 1);obtain ⟨b1,o1,rfl,hy1⟩:=Hs.out.rd.at_ (k:=v.length - 1) (by omega);clear hu hU hUl hs hlt hvpos;generalize u[v.length]?.getD 0=x1 at *;generalize u[v.length - 1]?.getD 0=x2 at *;generalize v[v.length - 1]?.getD 0=y at *;by_cases hcase:x1 < y
 ·have HG:Hid ((x1 * 4294967296+x2) / y < 4294967296):=ldiv_lt hcase hx2;have HGd:Hid (val u / val v≤(x1 * 4294967296+x2) / y):=Hdl.out;go_enter Tryz.func196,Tryz.ntmps196
  go_wp2
  go_quiet (fail)
  have hv1:(w.drewN nq).cell? ⟨g,j+v.length,none⟩=some (.int .u32 (x1:Nat)):=hu1;have hv2:(w.drewN nq).cell? ⟨g,j+(v.length - 1),none⟩=some (.int .u32 (x2:Nat)):=hu2;have hv3:(w.drewN nq).cell? ⟨b1,o1+(v.length - 1),none⟩=some (.int .u32 (y:Nat)):=hy1;have hB0:Hid (Below w.heap.size w (w.drewN nq)):=below_drewN (Below.refl _ _) _;generalize w.drewN nq=wq at *;go_wp2
  go_quiet (exact Calls.quiet_of (div32_any x1 x2 y hx2 hcase hy2 _))
  generalize (x1 * 4294967296+x2) % y=rm at *;generalize hgg:(x1 * 4294967296+x2) / y=G0 at *;have Hgg:Hid (((x1:Int) * 4294967296+(x2:Int)) / (y:Int)=(G0:Int)):=(by unfold Hid; rw [← hgg]; simp);clear hgg;go_wp2
  have Hbl:Hid (Below w.heap.size w (wq.drewN nq)):=below_drewN hB0.out _;go_loopw [6,7] (fun gs _ wr=>∃ G:Nat,gs=.int .u32 G∧G < 4294967296∧val u / val v≤G∧Below w.heap.size w wr) (fun gs _ _=>(intOf gs).toNat)
  case atStart=>exact ⟨G0,int_eq Hgg.out,HG.out,HGd.out,Hbl.out⟩
  case round=>
   obtain ⟨G,rfl,hG,hGd,hb⟩:=hrel;have Hb:=lh hb;have HGd:=lh hGd;clear hb hGd;have Hsr:Hid (Sl wr (some ⟨g,j,none⟩) u cu):=⟨Hrd.out.below Hb.out,Hul.out,by rw [Hlu.out]; exact hcu,by rw [Hlu.out]; omega⟩;go_wp2_with fail
   refine (hcl _ _ _ Hsr.out).mono ?_;rintro e w1 ⟨A',c',rfl,hown,hb1⟩;rw [← Hlu.out] at hown;obtain ⟨gr,rfl,hgr,hbx⟩:=hown.bx (by rw [Hlu.out]; omega);rw [Hlu.out] at hown;have Hb1:=lh (q0a Hb.out hb1);have Hbx:=lh hbx;have hwr:=Hb.out.size;have hgU:=HU.out.lt;have Hcr:Hid (v.length+1≤c'):=hown.2.elim (fun h=>absurd h.1 (by simp)) (fun ⟨_,_,_,h,_,_,h5,_⟩=>by simp only [Value.slice.injEq] at h; show _≤_; omega);clear hown hb1 hbx;have hsub:=subtract_any gr c' u v (some ⟨b1,o1,none⟩) c G w1 Hbx.out Hul.out (Hs.out.below Hb1.out) (by rintro ad ⟨⟩; have:=lt_of_cell hy1; simp at this ⊢; omega) Hlu.out (by omega) hG;rw [Hlu.out] at hsub;go_wp2_with fail
   refine hsub.mono ?_;rintro e w2 ⟨o,rfl,hbo,hlo,hlim,hval,hbut⟩;clear hsub;have Hbo:=lh hbo;have Hlo:Hid (o.length=v.length+1):=hlo.trans Hlu.out;have Hlim:=lh hlim;have Hval:=lh hval;have Hb2:Hid (Below w.heap.size w w2):=But.below' Hb1.out hbut (by omega);clear hbo hlo hlim hval hbut;by_cases hfit:G * val v≤val u
   ·rw [decide_eq_true hfit];have Hdg:=lh (digit_fit HGd.out hfit Hvpos.out);have Hvo:Hid (val o=val u % val v):=(Hval.out hfit).trans Hdg.out.2;clear hfit;have HU2:Hid (Bx w2 g U):=HU.out.kept Hb2.out;obtain ⟨ex,t0,hU2⟩:=HU2.out;obtain ⟨cur,hcur⟩:∃ cur,cur=(cs32 U ++ ex).toArray:=⟨_,rfl⟩;rw [← hcur] at hU2;have Hsz:Hid (j+(cs32 o).length≤cur.size):=(by unfold Hid; rw [hcur]; simp [cs32_length]; rw [Hlo.out]; omega);have Hsp:Hid (Bx (w2.setRow g (cur.toList.take j ++ (cs32 o ++ cur.toList.drop (j+(cs32 o).length))).toArray) g (seg U j o)):=HU2.out.splice (by rw [Hlo.out]; omega) hU2;have Hbt:Hid (But g w (w2.setRow g (cur.toList.take j ++ (cs32 o ++ cur.toList.drop (j+(cs32 o).length))).toArray)):=(But.of g Hb2.out).setRow _;have Hnews:=lh (Hbo.out.rd0.news);have HU3:=lh hU2;clear hcur hU2;go_wp2_with (refine wpList_copy_own (o:=⟨some 46,_,_,_,_,_⟩) rfl _ _ _ _ rfl 146 Tryz.underlying44 hsz32 g j (v.length+1) cu ⟨gr,0,none⟩ (v.length+1) c' (by rfl) (by rfl) cur t0 HU3.out (cs32 o) (by rw [cs32_length,Hlo.out]; exact (Nat.min_self _).symm) Hnews.out Hsz.out cs32_one ?_; generalize cur.toList.take j ++ (cs32 o ++ cur.toList.drop (j+(cs32 o).length))=row at *)
    go_wp2
    go_ret
    exact ⟨o,by rw [← Hdg.out.1]; rfl,Hlo.out,Hlim.out,Hvo.out,Hsp.out,Hbt.out⟩
   ·rw [decide_eq_false hfit]
    have Hlt2:Hid (val u / val v≤G - 1∧0 < G):=by
     have hd:=HGd.out;have:val u / val v < G:=(Nat.div_lt_iff_lt_mul Hvpos.out).2 (by omega);exact ⟨Nat.le_sub_one_of_lt this,Nat.lt_of_le_of_lt (Nat.zero_le _) this⟩
    have hG0:=Hlt2.out.2;clear hfit;go_wp2
    go_roundw
    case rel=>exact ⟨G - 1,by go_num,by omega,Hlt2.out.1,Hb2.out⟩
    case measure=>simp [intOf]; omega
 ·have HG:Hid ((4294967295:Nat) < 4294967296):=(by unfold Hid; omega);have HGd:Hid (val u / val v≤4294967295):=(by have:=Hq0.out; unfold Hid; omega);go_enter Tryz.func196,Tryz.ntmps196
  go_wp2
  go_quiet (fail)
  go_wp2
  have Hbl:Hid (Below w.heap.size w (w.drewN nq)):=below_drewN (Below.refl _ _) _;go_loopw [6,7] (fun gs _ wr=>∃ G:Nat,gs=.int .u32 G∧G < 4294967296∧val u / val v≤G∧Below w.heap.size w wr) (fun gs _ _=>(intOf gs).toNat)
  case atStart=>exact ⟨4294967295,rfl,HG.out,HGd.out,Hbl.out⟩
  case round=>
   obtain ⟨G,rfl,hG,hGd,hb⟩:=hrel;have Hb:=lh hb;have HGd:=lh hGd;clear hb hGd;have Hsr:Hid (Sl wr (some ⟨g,j,none⟩) u cu):=⟨Hrd.out.below Hb.out,Hul.out,by rw [Hlu.out]; exact hcu,by rw [Hlu.out]; omega⟩;go_wp2_with fail
   refine (hcl _ _ _ Hsr.out).mono ?_;rintro e w1 ⟨A',c',rfl,hown,hb1⟩;rw [← Hlu.out] at hown;obtain ⟨gr,rfl,hgr,hbx⟩:=hown.bx (by rw [Hlu.out]; omega);rw [Hlu.out] at hown;have Hb1:=lh (q0a Hb.out hb1);have Hbx:=lh hbx;have hwr:=Hb.out.size;have hgU:=HU.out.lt;have Hcr:Hid (v.length+1≤c'):=hown.2.elim (fun h=>absurd h.1 (by simp)) (fun ⟨_,_,_,h,_,_,h5,_⟩=>by simp only [Value.slice.injEq] at h; show _≤_; omega);clear hown hb1 hbx;have hsub:=subtract_any gr c' u v (some ⟨b1,o1,none⟩) c G w1 Hbx.out Hul.out (Hs.out.below Hb1.out) (by rintro ad ⟨⟩; have:=lt_of_cell hy1; simp at this ⊢; omega) Hlu.out (by omega) hG;rw [Hlu.out] at hsub;go_wp2_with fail
   refine hsub.mono ?_;rintro e w2 ⟨o,rfl,hbo,hlo,hlim,hval,hbut⟩;clear hsub;have Hbo:=lh hbo;have Hlo:Hid (o.length=v.length+1):=hlo.trans Hlu.out;have Hlim:=lh hlim;have Hval:=lh hval;have Hb2:Hid (Below w.heap.size w w2):=But.below' Hb1.out hbut (by omega);clear hbo hlo hlim hval hbut;by_cases hfit:G * val v≤val u
   ·rw [decide_eq_true hfit];have Hdg:=lh (digit_fit HGd.out hfit Hvpos.out);have Hvo:Hid (val o=val u % val v):=(Hval.out hfit).trans Hdg.out.2;clear hfit;have HU2:Hid (Bx w2 g U):=HU.out.kept Hb2.out;obtain ⟨ex,t0,hU2⟩:=HU2.out;obtain ⟨cur,hcur⟩:∃ cur,cur=(cs32 U ++ ex).toArray:=⟨_,rfl⟩;rw [← hcur] at hU2;have Hsz:Hid (j+(cs32 o).length≤cur.size):=(by unfold Hid; rw [hcur]; simp [cs32_length]; rw [Hlo.out]; omega);have Hsp:Hid (Bx (w2.setRow g (cur.toList.take j ++ (cs32 o ++ cur.toList.drop (j+(cs32 o).length))).toArray) g (seg U j o)):=HU2.out.splice (by rw [Hlo.out]; omega) hU2;have Hbt:Hid (But g w (w2.setRow g (cur.toList.take j ++ (cs32 o ++ cur.toList.drop (j+(cs32 o).length))).toArray)):=(But.of g Hb2.out).setRow _;have Hnews:=lh (Hbo.out.rd0.news);have HU3:=lh hU2;clear hcur hU2;go_wp2_with (refine wpList_copy_own (o:=⟨some 46,_,_,_,_,_⟩) rfl _ _ _ _ rfl 146 Tryz.underlying44 hsz32 g j (v.length+1) cu ⟨gr,0,none⟩ (v.length+1) c' (by rfl) (by rfl) cur t0 HU3.out (cs32 o) (by rw [cs32_length,Hlo.out]; exact (Nat.min_self _).symm) Hnews.out Hsz.out cs32_one ?_; generalize cur.toList.take j ++ (cs32 o ++ cur.toList.drop (j+(cs32 o).length))=row at *)
    go_wp2
    go_ret
    exact ⟨o,by rw [← Hdg.out.1]; rfl,Hlo.out,Hlim.out,Hvo.out,Hsp.out,Hbt.out⟩
   ·rw [decide_eq_false hfit]
    have Hlt2:Hid (val u / val v≤G - 1∧0 < G):=by
     have hd:=HGd.out;have:val u / val v < G:=(Nat.div_lt_iff_lt_mul Hvpos.out).2 (by omega);exact ⟨Nat.le_sub_one_of_lt this,Nat.lt_of_le_of_lt (Nat.zero_le _) this⟩
    have hG0:=Hlt2.out.2;clear hfit;go_wp2
    go_roundw
    case rel=>exact ⟨G - 1,by go_num,by omega,Hlt2.out.1,Hb2.out⟩
    case measure=>simp [intOf]; omega
end Go.Proofs.YtgnjhlnolihgcaaGreat
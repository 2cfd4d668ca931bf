import Derived.Test.YtcpofeehpijbcaaGreatDoorFr2
import Derived.Laws.IdiomStrings
set_option maxHeartbeats 4000000
set_option maxRecDepth 100000
namespace Go.Proofs.YtcpofeehpijbcaaGreatDoor
open List renaming getElem_toArray → z0q, getElem_cons_zero → z1q, getElem_cons_succ → z2q, setIfInBounds_toArray → z3q, set_cons_zero → z4q, set_cons_succ → z5q
open Lib renaming hid → lh
open Go.RowKit Go.Lib Go.Shelf
attribute [local go_sem ↓] Go.wp_at_zero Go.wp_at_succ
def BarE (W:World):Prop:=W.cell? ⟨0,0,none⟩=some (.int .i64 58)∧W.cell? ⟨0,1,none⟩=some (.int .i64 64)∧W.cell? ⟨0,2,none⟩=some (.int .i64 91)∧W.cell? ⟨0,3,none⟩=some (.int .i64 96)
theorem BarE.keep {w w':World} (h:BarE w) (hb:Below w.heap.size w w'):BarE w':=⟨q0b hb h.1,q0b hb h.2.1,q0b hb h.2.2.1,q0b hb h.2.2.2⟩
theorem q0f (c:Nat) (hc:c≤1000) (w:World) (hE:BarE w) :
  Calls Tryz.prog 103 #[.int .i64 (c:Int)] w fun e w'=>e=.returned (.bool (barB c))∧Below w.heap.size w w':=by
 obtain ⟨g0,g1,g2,g3⟩:=hE;have x0:Hid (∀ W,(Instr.index 179 (.agg #[Value.int .i64 58,.int .i64 64,.int .i64 91,.int .i64 96]) (.int .i64 0)).run Tryz.prog W=.ok (.agg #[.int .i64 58,.int .i64 64]) W):=fun W=>by kernel_rfl
 have x1:Hid (∀ W,(Instr.index 179 (.agg #[Value.int .i64 58,.int .i64 64,.int .i64 91,.int .i64 96]) (.int .i64 1)).run Tryz.prog W=.ok (.agg #[.int .i64 91,.int .i64 96]) W):=fun W=>by kernel_rfl
 go_enter Tryz.func103,Tryz.ntmps103
 go_wp2
 clear g0 g1 g2 g3;go_loopw [6] (fun s6 wr=>((s6=.int .i64 0)∨(s6=.int .i64 1∧(decide (58≤c) && decide (c≤64))=false)∨(s6=.int .i64 2∧(decide (58≤c) && decide (c≤64))=false∧(decide (91≤c) && decide (c≤96))=false))∧Below w.heap.size w wr) (fun v _=>2 - (RowKit.intOf v).toNat)
 case atStart=>exact ⟨Or.inl rfl,Below.refl _ _⟩
 case round=>
  obtain ⟨hc3,hbw⟩:=hrel;have HB:=lh hbw;clear hbw;obtain rfl | ⟨rfl,e1⟩ | ⟨rfl,e1,e2⟩:=hc3
  ·have KR:Hid (BlkV (wr.alloc (.cells #[.int .i64 58,.int .i64 64] 178)) wr.heap.size 178 #[.int .i64 58,.int .i64 64]):=BlkV.fresh rfl _ _;have B1:Hid (Below w.heap.size w (wr.alloc (.cells #[.int .i64 58,.int .i64 64] 178))):=q0a HB.out (blw1 _ _);have r0:(wr.alloc (.cells #[.int .i64 58,.int .i64 64] 178)).cell? ⟨wr.heap.size,0,none⟩=some (.int .i64 58):=KR.out.at_ 0 rfl;have r1:(wr.alloc (.cells #[.int .i64 58,.int .i64 64] 178)).cell? ⟨wr.heap.size,1,none⟩=some (.int .i64 64):=KR.out.at_ 1 rfl;by_cases hlo:58≤c
   ·have d1:decide ((58:Int)≤(c:Int))=true:=decide_eq_true (by omega);by_cases hhi:c≤64
    ·have d2:decide ((c:Int)≤64)=true:=decide_eq_true (by omega);go_wp2
     rw [x0.out];go_wp2
     go_ret
     refine ⟨by rw [show barB c=true from by unfold barB; simp; omega]; rfl,B1.out⟩
    ·have d2:decide ((c:Int)≤64)=false:=decide_eq_false (by omega);go_wp2
     rw [x0.out];go_wp2
     go_roundw
     case rel=>exact ⟨Or.inr (Or.inl ⟨by go_num,by simp; omega⟩),B1.out⟩
     case measure=>simp [RowKit.intOf]
   ·have d1:decide ((58:Int)≤(c:Int))=false:=decide_eq_false (by omega);go_wp2
    rw [x0.out];go_wp2
    go_roundw
    case rel=>exact ⟨Or.inr (Or.inl ⟨by go_num,by simp; omega⟩),B1.out⟩
    case measure=>simp [RowKit.intOf]
  ·have KR:Hid (BlkV (wr.alloc (.cells #[.int .i64 91,.int .i64 96] 178)) wr.heap.size 178 #[.int .i64 91,.int .i64 96]):=BlkV.fresh rfl _ _;have B1:Hid (Below w.heap.size w (wr.alloc (.cells #[.int .i64 91,.int .i64 96] 178))):=q0a HB.out (blw1 _ _);have r0:(wr.alloc (.cells #[.int .i64 91,.int .i64 96] 178)).cell? ⟨wr.heap.size,0,none⟩=some (.int .i64 91):=KR.out.at_ 0 rfl;have r1:(wr.alloc (.cells #[.int .i64 91,.int .i64 96] 178)).cell? ⟨wr.heap.size,1,none⟩=some (.int .i64 96):=KR.out.at_ 1 rfl;by_cases hlo:91≤c
   ·have d1:decide ((91:Int)≤(c:Int))=true:=decide_eq_true (by omega);by_cases hhi:c≤96
    ·have d2:decide ((c:Int)≤96)=true:=decide_eq_true (by omega);go_wp2
     rw [x1.out];go_wp2
     go_ret
     refine ⟨by rw [show barB c=true from by unfold barB; simp; omega]; rfl,B1.out⟩
    ·have d2:decide ((c:Int)≤96)=false:=decide_eq_false (by omega);go_wp2
     rw [x1.out];go_wp2
     go_roundw
     case rel=>exact ⟨Or.inr (Or.inr ⟨by go_num,e1,by simp; omega⟩),B1.out⟩
     case measure=>simp [RowKit.intOf]
   ·have d1:decide ((91:Int)≤(c:Int))=false:=decide_eq_false (by omega);go_wp2
    rw [x1.out];go_wp2
    go_roundw
    case rel=>exact ⟨Or.inr (Or.inr ⟨by go_num,e1,by simp; omega⟩),B1.out⟩
    case measure=>simp [RowKit.intOf]
  ·have EB:Hid (barB c=false):=(by unfold Hid barB; rw [e1,e2]; rfl);go_wp2
   go_ret
   exact ⟨by rw [EB.out]; rfl,HB.out⟩
def doneJ (i k j:Nat):Bool:=decide (j % 4 < i) || (decide (j % 4=i) && decide (j / 8 < k))
def q0e (v i k:Nat):Array Value:=((List.range 16).map fun p=>Value.int .u8 (if doneJ i k ((p+15) % 16) then ((cch v ((p+15) % 16):Nat):Int) else 0)).toArray
theorem cellsC_next (v i:Nat) (_hi:i < 4):q0e v i 2=q0e v (i+1) 0:=by
 unfold q0e;congr 1
 apply List.map_congr_left
 intro p hp;have hp:=List.mem_range.1 hp
 have e:doneJ i 2 ((p+15) % 16)=doneJ (i+1) 0 ((p+15) % 16):=by
  unfold doneJ;rw [Bool.eq_iff_iff];simp;omega
 rw [e]
theorem q1h (v i k:Nat) (hi:i < 4) (hk:k < 2):((q0e v i k).setIfInBounds ((8 * k+i+1) % 16) (.int .u8 ((cx (byt v i) k:Nat):Int))).setIfInBounds ((8 * k+4+i+1) % 16) (.int .u8 ((cy (byt v i) k:Nat):Int))=q0e v i (k+1):=by
 obtain rfl | rfl | rfl | rfl:i=0∨i=1∨i=2∨i=3:=by omega
 all_goals (obtain rfl | rfl:k=0∨k=1:=by omega)
 all_goals rfl
theorem cellsC_zero (v:Nat):q0e v 0 0=#[Value.int .u8 0,Value.int .u8 0,Value.int .u8 0,Value.int .u8 0,Value.int .u8 0,Value.int .u8 0,Value.int .u8 0,Value.int .u8 0,Value.int .u8 0,Value.int .u8 0,Value.int .u8 0,Value.int .u8 0,Value.int .u8 0,Value.int .u8 0,Value.int .u8 0,Value.int .u8 0]:=rfl
theorem bar_at {b k n:Nat} (hb:b < 256) (hk:k < 2) (hn:n < nst b k):bar2 (qx b k+n) (b / 4+48 - n)=true:=by
 have h:=code_ok hb hk;unfold codeOk at h;simp only [Bool.and_eq_true] at h;exact List.all_eq_true.1 h.1.1.1.2 n (List.mem_range.2 hn)
theorem bar_end {b k:Nat} (hb:b < 256) (hk:k < 2):nst b k≤10∧bar2 (cx b k) (cy b k)=false∧goodC (cx b k)=true∧goodC (cy b k)=true∧cx b k+cy b k=2 * (b / 4+48)+(if k=0 then b % 4 else 0):=by
 have h:=code_ok hb hk;unfold codeOk at h;simp only [Bool.and_eq_true,decide_eq_true_eq,Bool.not_eq_true',beq_iff_eq] at h;exact ⟨h.1.1.1.1.1,h.1.1.1.1.2,h.1.1.2,h.1.2,h.2⟩
theorem qx_le {b k:Nat} (hb:b < 256):qx b k≤114:=by unfold qx; split <;> omega
theorem stp_le:∀ f x y,stp f x y≤f
 | 0,_,_=>Nat.le_refl _
 | f+1,x,y=>by
  have:=stp_le f (x+1) (y - 1);unfold stp;split <;> omega
theorem q0u {c:Nat} (h:goodC c=true):48≤c∧c≤122:=by
 unfold goodC at h;simp only [Bool.or_eq_true,Bool.and_eq_true,decide_eq_true_eq] at h;omega
theorem code_both {b:Nat} (hb:b < 256) (k:Nat):cx b k < 256∧cy b k < 256:=by
 by_cases h:k < 2
 ·have h2:=bar_end hb h;have h3:=q0u h2.2.2.1;have h4:=q0u h2.2.2.2.1;omega
 ·have hq:=qx_le (k:=k) hb;have hn:=stp_le 20 (qx b k) (b / 4+48);unfold cx cy nst;omega
theorem q0s (v i k p:Nat) (hp:p < 16):∃ x,(q0e v i k)[p]? = some x:=by
 have:p < (q0e v i k).size:=(by unfold q0e; simp; exact hp);exact ⟨_,Array.getElem?_eq_getElem this⟩
theorem byt_lt (v i:Nat):byt v i < 256:=Nat.mod_lt _ (by omega)
theorem byt_and (v:Nat) (hv:v < 4294967296) (d:Nat):bits .and .u32 ((v / d:Nat):Int) 255=((v / d % 256:Nat):Int):=by
 have h1:v / d≤v:=Nat.div_le_self _ _;have e:=u32_and_nat (v / d) 255 (by omega) (by omega);rw [show (255:Nat)=2 ^ 8 - 1 from rfl,Nat.and_two_pow_sub_one_eq_mod] at e;exact e
theorem byt_val (v i:Nat) (hv:v < 4294967296) (x:Int) (hx:x=((v / 2 ^ (24 - 8 * i):Nat):Int)):wrap64 (bits .and .u32 x 255)=(byt v i:Int):=by
 subst hx;rw [byt_and v hv];unfold byt wrap64;omega
theorem cx_lt (v j:Nat):cch v j < 256:=by
 unfold cch;split
 ·have:=(code_both (byt_lt v (j % 4)) (j / 8)).1; omega
 ·have:=(code_both (byt_lt v (j % 4)) (j / 8)).2; omega
theorem codeS_len (v:Nat):(codeS v).length=16:=by unfold codeS; simp
theorem codeS_at (v j:Nat) (hj:j < (codeS v).length):(q0e v 4 0)[j]? = some (.int .u8 (((codeS v)[j]'hj).toNat:Int)):=by
 have h16:j < 16:=(by rw [codeS_len] at hj; exact hj);have hd:doneJ 4 0 ((j+15) % 16)=true:=(by unfold doneJ; simp; omega);have hv:=cx_lt v ((j+15) % 16);have e:(codeS v)[j]'hj=UInt8.ofNat (cch v ((j+15) % 16)):=(by simp [codeS]);rw [e,UInt8.toNat_ofNat_of_lt' hv];unfold q0e;rw [List.getElem?_toArray,List.getElem?_map,List.getElem?_range h16,Option.map_some,hd,if_pos rfl]
theorem code_conv (v:Nat) (W:World) (g:Nat) (h:BlkV W g 133 (q0e v 4 0)):(convert 73 9 (.slice (some ⟨g,0,none⟩) 16 16)).run Tryz.prog W=.ok (.string ⟨(codeS v).toArray⟩) W:=by
 have hr:=run_convert_bytes_back (P:=Tryz.prog) W 73 9 5 ⟨g,0,none⟩ 16 (codeS v) (by kernel_rfl) (by kernel_rfl) (by kernel_rfl) (fun j hj=>by
  rw [Addr.add_lit,Nat.zero_add];exact h.at_ j (codeS_at v j hj))
 rw [codeS_len] at hr;exact hr
theorem code_any (v:Nat) (hv:v < 4294967296) (w:World) (hE:BarE w) :
  Calls Tryz.prog 45 #[.int .u32 (v:Int)] w fun e w'=>e=.returned (.string ⟨(codeS v).toArray⟩)∧Below w.heap.size w w':=by
 have EN:=lh hE;have BA:=lh (fun (d:Nat)=>byt_and v hv d);have C0:=lh (cellsC_zero v);have K0:Hid (BlkV (w.alloc (.cells (q0e v 0 0) 133)) w.heap.size 133 (q0e v 0 0)):=BlkV.fresh rfl _ _;have B0:Hid (Below w.heap.size w (w.alloc (.cells (q0e v 0 0) 133))):=blw1 _ _;clear hE;go_enter Tryz.func45,Tryz.ntmps45
 go_wp2
 rw [← C0.out];generalize w.alloc (.cells (q0e v 0 0) 133)=w0 at *;clear C0;go_loopw [9] (fun s9 wr=>((s9=.int .i64 0∧BlkV wr w.heap.size 133 (q0e v 0 0))∨(s9=.int .i64 1∧BlkV wr w.heap.size 133 (q0e v 1 0))∨(s9=.int .i64 2∧BlkV wr w.heap.size 133 (q0e v 2 0))∨(s9=.int .i64 3∧BlkV wr w.heap.size 133 (q0e v 3 0))∨(s9=.int .i64 4∧BlkV wr w.heap.size 133 (q0e v 4 0)))∧Below w.heap.size w wr) (fun v _=>4 - (RowKit.intOf v).toNat)
 case atStart=>exact ⟨Or.inl ⟨rfl,K0.out⟩,B0.out⟩
 case round=>
  obtain ⟨hcs,hbw⟩:=hrel;replace B0:=lh hbw;clear hbw K0;obtain ⟨rfl,hk⟩ | ⟨rfl,hk⟩ | ⟨rfl,hk⟩ | ⟨rfl,hk⟩ | ⟨rfl,hk⟩:=hcs
  ·have K0:=lh hk;clear hk;go_wp2
   have BY:Hid (wrap64 (bits .and .u32 ((v:Int) / 16777216) 255)=(byt v 0:Int)):=byt_val v 0 hv _ (by show _=((v / 16777216:Nat):Int); omega);rw [BY.out];clear BY BA;go_loopw [19] (fun s19 wu=>((s19=.int .i64 0∧BlkV wu w.heap.size 133 (q0e v 0 0))∨(s19=.int .i64 1∧BlkV wu w.heap.size 133 (q0e v 0 1))∨(s19=.int .i64 2∧BlkV wu w.heap.size 133 (q0e v 0 2)))∧Below w.heap.size w wu) (fun v _=>2 - (RowKit.intOf v).toNat)
   case atStart=>exact ⟨Or.inl ⟨rfl,K0.out⟩,B0.out⟩
   case round=>
    obtain ⟨hcs,hbw⟩:=hrel;replace B0:=lh hbw;clear hbw K0;obtain ⟨rfl,hk⟩ | ⟨rfl,hk⟩ | ⟨rfl,hk⟩:=hcs
    ·have K0:=lh hk;clear hk;have ST:Hid (((q0e v 0 0).setIfInBounds 1 (.int .u8 ((cx (byt v 0) 0:Nat):Int))).setIfInBounds 5 (.int .u8 ((cy (byt v 0) 0:Nat):Int))=q0e v 0 1):=q1h v 0 0 (by omega) (by omega);have hb:=byt_lt v 0;have AT:=lh (fun n (hn:n < nst (byt v 0) 0)=>bar_at hb (k:=0) (by omega) hn);obtain ⟨hN,hE0,hgx,hgy,-⟩:=bar_end hb (k:=0) (by omega);have EB:=lh hE0;have hqx:=qx_le (k:=0) hb;have hqv:qx (byt v 0) 0=(byt v 0) / 4+48+(byt v 0) % 4:=(by unfold qx; simp);unfold cx cy at ST EB;unfold cx at hgx;unfold cy at hgy;have hc1:=q0u hgx;have hc2:=q0u hgy;clear hE0 hgx hgy;generalize nst (byt v 0) 0=N at *;generalize qx (byt v 0) 0=q at *;generalize byt v 0=b at *;obtain ⟨r,hr⟩:∃ r,r=b / 4+48:=⟨_,rfl⟩;rw [← hr] at ST EB AT hc2;have htm:(b:Int).tmod 4=(b:Int) % 4:=Int.tmod_eq_emod_of_nonneg (by omega);have htd:(b:Int).tdiv 4=(b:Int) / 4:=Int.tdiv_eq_ediv_of_nonneg (by omega);go_wp2_with fail
     go_loopw [7,8] (fun s7 s8 wv=>∃ n X Y:Nat,n≤N∧X=q+n∧Y=r - n∧s7=.int .i64 X∧s8=.int .i64 Y∧BlkV wv w.heap.size 133 (q0e v 0 0)∧Below w.heap.size w wv) (fun v _ _=>200 - (RowKit.intOf v).toNat)
     case atStart=>exact ⟨0,q,r,Nat.zero_le _,rfl,rfl,int_eq (by omega),int_eq (by omega),K0.out,B0.out⟩
     case round=>
      obtain ⟨n,X,Y,hn,hX,hY,rfl,rfl,hkk,hbw⟩:=hrel;have HX:=lh hX;have HY:=lh hY;have hXY:X≤150∧1≤Y∧Y≤200∧X=q+n:=(by omega);obtain ⟨hX1,hY1,hY2,-⟩:=hXY;replace K0:=lh hkk;replace B0:=lh hbw;clear hkk hbw htm htd;have CX:=lh (fun W (h:BarE W)=>q0f X (by omega) W h);have CY:=lh (fun W (h:BarE W)=>q0f Y (by omega) W h);by_cases hlt:n < N
      ·have hab:=AT.out n hlt;rw [← HX.out,← HY.out] at hab;unfold bar2 at hab;generalize barB X=bx at *;generalize barB Y=cy at *;clear AT EB ST hX hY
       cases bx with
       | true=>
        go_wp2_with fail
        refine (CX.out _ (EN.out.keep B0.out)).mono ?_;rintro e w1 ⟨rfl,hb1⟩;replace B0:=lh (q0a B0.out hb1);replace K0:=lh (K0.out.keep hb1);clear hb1;go_wp2
        go_roundw
        case rel=>exact ⟨n+1,X+1,Y - 1,by omega,by rw [HX.out]; omega,by rw [HY.out]; omega,int_eq (by omega),int_eq (by omega),K0.out,B0.out⟩
        case measure=>simp [RowKit.intOf]; omega
       | false=>
        have hcy:cy=true:=hab;subst hcy;go_wp2_with fail
        refine (CX.out _ (EN.out.keep B0.out)).mono ?_;rintro e w1 ⟨rfl,hb1⟩;replace B0:=lh (q0a B0.out hb1);replace K0:=lh (K0.out.keep hb1);clear hb1;go_wp2_with fail
        refine (CY.out _ (EN.out.keep B0.out)).mono ?_;rintro e w1 ⟨rfl,hb1⟩;replace B0:=lh (q0a B0.out hb1);replace K0:=lh (K0.out.keep hb1);clear hb1;go_wp2
        go_roundw
        case rel=>exact ⟨n+1,X+1,Y - 1,by omega,by rw [HX.out]; omega,by rw [HY.out]; omega,int_eq (by omega),int_eq (by omega),K0.out,B0.out⟩
        case measure=>simp [RowKit.intOf]; omega
      ·obtain rfl:n=N:=by omega
       have hab:=EB.out;rw [← HX.out,← HY.out] at hab ST;unfold bar2 at hab;generalize barB X=bx at *;generalize barB Y=cy at *;clear AT EB hX hY;obtain ⟨rfl,rfl⟩:=Bool.or_eq_false_iff.1 hab;go_wp2_with fail
       refine (CX.out _ (EN.out.keep B0.out)).mono ?_;rintro e w1 ⟨rfl,hb1⟩;replace B0:=lh (q0a B0.out hb1);replace K0:=lh (K0.out.keep hb1);clear hb1;go_wp2_with fail
       refine (CY.out _ (EN.out.keep B0.out)).mono ?_;rintro e w1 ⟨rfl,hb1⟩;replace B0:=lh (q0a B0.out hb1);replace K0:=lh (K0.out.keep hb1);clear hb1;have PU:=lh ((K0.out.set_ 1 (.int .u8 (X:Int))).set_ 5 (.int .u8 (Y:Int)));rw [ST.out] at PU;have PB:=lh ((B0.out.setCell (p:=⟨w.heap.size,1,none⟩) (Nat.le_refl _) (.int .u8 (X:Int))).setCell (p:=⟨w.heap.size,5,none⟩) (Nat.le_refl _) (.int .u8 (Y:Int)));obtain ⟨x1,hx1⟩:=q0s v 0 0 1 (by omega);obtain ⟨x2,hx2⟩:=q0s v 0 0 5 (by omega);have f1:=K0.out.frozen 1;have f2:=(K0.out.set_ 1 (.int .u8 (X:Int))).frozen 5;have l1:=K0.out.at_ 1 hx1;have l2:=(K0.out.set_ 1 (.int .u8 (X:Int))).at_ 5 (by rw [Array.getElem?_setIfInBounds_ne (by omega)]; exact hx2);have u1:IntKind.u8.wrap (X:Int)=(X:Int):=(by rw [IntKind.wrap_u8]; omega);have u2:IntKind.u8.wrap (Y:Int)=(Y:Int):=(by rw [IntKind.wrap_u8]; omega);clear hx1 hx2 hab ST;go_wp2
       go_roundw
       case rel=>exact ⟨Or.inr (Or.inl ⟨by go_num,PU.out⟩),PB.out⟩
       case measure=>simp [RowKit.intOf]
    ·have K0:=lh hk;clear hk;have ST:Hid (((q0e v 0 1).setIfInBounds 9 (.int .u8 ((cx (byt v 0) 1:Nat):Int))).setIfInBounds 13 (.int .u8 ((cy (byt v 0) 1:Nat):Int))=q0e v 0 2):=q1h v 0 1 (by omega) (by omega);have hb:=byt_lt v 0;have AT:=lh (fun n (hn:n < nst (byt v 0) 1)=>bar_at hb (k:=1) (by omega) hn);obtain ⟨hN,hE0,hgx,hgy,-⟩:=bar_end hb (k:=1) (by omega);have EB:=lh hE0;have hqx:=qx_le (k:=1) hb;have hqv:qx (byt v 0) 1=(byt v 0) / 4+48:=(by unfold qx; simp);unfold cx cy at ST EB;unfold cx at hgx;unfold cy at hgy;have hc1:=q0u hgx;have hc2:=q0u hgy;clear hE0 hgx hgy;generalize nst (byt v 0) 1=N at *;generalize qx (byt v 0) 1=q at *;generalize byt v 0=b at *;obtain ⟨r,hr⟩:∃ r,r=b / 4+48:=⟨_,rfl⟩;rw [← hr] at ST EB AT hc2;have htm:(b:Int).tmod 4=(b:Int) % 4:=Int.tmod_eq_emod_of_nonneg (by omega);have htd:(b:Int).tdiv 4=(b:Int) / 4:=Int.tdiv_eq_ediv_of_nonneg (by omega);go_wp2_with fail
     go_loopw [7,8] (fun s7 s8 wv=>∃ n X Y:Nat,n≤N∧X=q+n∧Y=r - n∧s7=.int .i64 X∧s8=.int .i64 Y∧BlkV wv w.heap.size 133 (q0e v 0 1)∧Below w.heap.size w wv) (fun v _ _=>200 - (RowKit.intOf v).toNat)
     case atStart=>exact ⟨0,q,r,Nat.zero_le _,rfl,rfl,int_eq (by omega),int_eq (by omega),K0.out,B0.out⟩
     case round=>
      obtain ⟨n,X,Y,hn,hX,hY,rfl,rfl,hkk,hbw⟩:=hrel;have HX:=lh hX;have HY:=lh hY;have hXY:X≤150∧1≤Y∧Y≤200∧X=q+n:=(by omega);obtain ⟨hX1,hY1,hY2,-⟩:=hXY;replace K0:=lh hkk;replace B0:=lh hbw;clear hkk hbw htm htd;have CX:=lh (fun W (h:BarE W)=>q0f X (by omega) W h);have CY:=lh (fun W (h:BarE W)=>q0f Y (by omega) W h);by_cases hlt:n < N
      ·have hab:=AT.out n hlt;rw [← HX.out,← HY.out] at hab;unfold bar2 at hab;generalize barB X=bx at *;generalize barB Y=cy at *;clear AT EB ST hX hY
       cases bx with
       | true=>
        go_wp2_with fail
        refine (CX.out _ (EN.out.keep B0.out)).mono ?_;rintro e w1 ⟨rfl,hb1⟩;replace B0:=lh (q0a B0.out hb1);replace K0:=lh (K0.out.keep hb1);clear hb1;go_wp2
        go_roundw
        case rel=>exact ⟨n+1,X+1,Y - 1,by omega,by rw [HX.out]; omega,by rw [HY.out]; omega,int_eq (by omega),int_eq (by omega),K0.out,B0.out⟩
        case measure=>simp [RowKit.intOf]; omega
       | false=>
        have hcy:cy=true:=hab;subst hcy;go_wp2_with fail
        refine (CX.out _ (EN.out.keep B0.out)).mono ?_;rintro e w1 ⟨rfl,hb1⟩;replace B0:=lh (q0a B0.out hb1);replace K0:=lh (K0.out.keep hb1);clear hb1;go_wp2_with fail
        refine (CY.out _ (EN.out.keep B0.out)).mono ?_;rintro e w1 ⟨rfl,hb1⟩;replace B0:=lh (q0a B0.out hb1);replace K0:=lh (K0.out.keep hb1);clear hb1;go_wp2
        go_roundw
        case rel=>exact ⟨n+1,X+1,Y - 1,by omega,by rw [HX.out]; omega,by rw [HY.out]; omega,int_eq (by omega),int_eq (by omega),K0.out,B0.out⟩
        case measure=>simp [RowKit.intOf]; omega
      ·obtain rfl:n=N:=by omega
       have hab:=EB.out;rw [← HX.out,← HY.out] at hab ST;unfold bar2 at hab;generalize barB X=bx at *;generalize barB Y=cy at *;clear AT EB hX hY;obtain ⟨rfl,rfl⟩:=Bool.or_eq_false_iff.1 hab;go_wp2_with fail
       refine (CX.out _ (EN.out.keep B0.out)).mono ?_;rintro e w1 ⟨rfl,hb1⟩;replace B0:=lh (q0a B0.out hb1);replace K0:=lh (K0.out.keep hb1);clear hb1;go_wp2_with fail
       refine (CY.out _ (EN.out.keep B0.out)).mono ?_;rintro e w1 ⟨rfl,hb1⟩;replace B0:=lh (q0a B0.out hb1);replace K0:=lh (K0.out.keep hb1);clear hb1;have PU:=lh ((K0.out.set_ 9 (.int .u8 (X:Int))).set_ 13 (.int .u8 (Y:Int)));rw [ST.out] at PU;have PB:=lh ((B0.out.setCell (p:=⟨w.heap.size,9,none⟩) (Nat.le_refl _) (.int .u8 (X:Int))).setCell (p:=⟨w.heap.size,13,none⟩) (Nat.le_refl _) (.int .u8 (Y:Int)));obtain ⟨x1,hx1⟩:=q0s v 0 1 9 (by omega);obtain ⟨x2,hx2⟩:=q0s v 0 1 13 (by omega);have f1:=K0.out.frozen 9;have f2:=(K0.out.set_ 9 (.int .u8 (X:Int))).frozen 13;have l1:=K0.out.at_ 9 hx1;have l2:=(K0.out.set_ 9 (.int .u8 (X:Int))).at_ 13 (by rw [Array.getElem?_setIfInBounds_ne (by omega)]; exact hx2);have u1:IntKind.u8.wrap (X:Int)=(X:Int):=(by rw [IntKind.wrap_u8]; omega);have u2:IntKind.u8.wrap (Y:Int)=(Y:Int):=(by rw [IntKind.wrap_u8]; omega);clear hx1 hx2 hab ST;go_wp2
       go_roundw
       case rel=>exact ⟨Or.inr (Or.inr ⟨by go_num,PU.out⟩),PB.out⟩
       case measure=>simp [RowKit.intOf]
    ·have K0:=lh hk;clear hk;have CN:=lh (cellsC_next v 0 (by omega));rw [CN.out] at K0;go_wp2
     go_roundw
     case rel=>exact ⟨Or.inr (Or.inl ⟨by go_num,K0.out⟩),B0.out⟩
     case measure=>simp [RowKit.intOf]
  ·have K0:=lh hk;clear hk;go_wp2
   have BY:Hid (wrap64 (bits .and .u32 ((v:Int) / 65536) 255)=(byt v 1:Int)):=byt_val v 1 hv _ (by show _=((v / 65536:Nat):Int); omega);rw [BY.out];clear BY BA;go_loopw [19] (fun s19 wu=>((s19=.int .i64 0∧BlkV wu w.heap.size 133 (q0e v 1 0))∨(s19=.int .i64 1∧BlkV wu w.heap.size 133 (q0e v 1 1))∨(s19=.int .i64 2∧BlkV wu w.heap.size 133 (q0e v 1 2)))∧Below w.heap.size w wu) (fun v _=>2 - (RowKit.intOf v).toNat)
   case atStart=>exact ⟨Or.inl ⟨rfl,K0.out⟩,B0.out⟩
   case round=>
    obtain ⟨hcs,hbw⟩:=hrel;replace B0:=lh hbw;clear hbw K0;obtain ⟨rfl,hk⟩ | ⟨rfl,hk⟩ | ⟨rfl,hk⟩:=hcs
    ·have K0:=lh hk;clear hk;have ST:Hid (((q0e v 1 0).setIfInBounds 2 (.int .u8 ((cx (byt v 1) 0:Nat):Int))).setIfInBounds 6 (.int .u8 ((cy (byt v 1) 0:Nat):Int))=q0e v 1 1):=q1h v 1 0 (by omega) (by omega);have hb:=byt_lt v 1;have AT:=lh (fun n (hn:n < nst (byt v 1) 0)=>bar_at hb (k:=0) (by omega) hn);obtain ⟨hN,hE0,hgx,hgy,-⟩:=bar_end hb (k:=0) (by omega);have EB:=lh hE0;have hqx:=qx_le (k:=0) hb;have hqv:qx (byt v 1) 0=(byt v 1) / 4+48+(byt v 1) % 4:=(by unfold qx; simp);unfold cx cy at ST EB;unfold cx at hgx;unfold cy at hgy;have hc1:=q0u hgx;have hc2:=q0u hgy;clear hE0 hgx hgy;generalize nst (byt v 1) 0=N at *;generalize qx (byt v 1) 0=q at *;generalize byt v 1=b at *;obtain ⟨r,hr⟩:∃ r,r=b / 4+48:=⟨_,rfl⟩;rw [← hr] at ST EB AT hc2;have htm:(b:Int).tmod 4=(b:Int) % 4:=Int.tmod_eq_emod_of_nonneg (by omega);have htd:(b:Int).tdiv 4=(b:Int) / 4:=Int.tdiv_eq_ediv_of_nonneg (by omega);go_wp2_with fail
     go_loopw [7,8] (fun s7 s8 wv=>∃ n X Y:Nat,n≤N∧X=q+n∧Y=r - n∧s7=.int .i64 X∧s8=.int .i64 Y∧BlkV wv w.heap.size 133 (q0e v 1 0)∧Below w.heap.size w wv) (fun v _ _=>200 - (RowKit.intOf v).toNat)
     case atStart=>exact ⟨0,q,r,Nat.zero_le _,rfl,rfl,int_eq (by omega),int_eq (by omega),K0.out,B0.out⟩
     case round=>
      obtain ⟨n,X,Y,hn,hX,hY,rfl,rfl,hkk,hbw⟩:=hrel;have HX:=lh hX;have HY:=lh hY;have hXY:X≤150∧1≤Y∧Y≤200∧X=q+n:=(by omega);obtain ⟨hX1,hY1,hY2,-⟩:=hXY;replace K0:=lh hkk;replace B0:=lh hbw;clear hkk hbw htm htd;have CX:=lh (fun W (h:BarE W)=>q0f X (by omega) W h);have CY:=lh (fun W (h:BarE W)=>q0f Y (by omega) W h);by_cases hlt:n < N
      ·have hab:=AT.out n hlt;rw [← HX.out,← HY.out] at hab;unfold bar2 at hab;generalize barB X=bx at *;generalize barB Y=cy at *;clear AT EB ST hX hY
       cases bx with
       | true=>
        go_wp2_with fail
        refine (CX.out _ (EN.out.keep B0.out)).mono ?_;rintro e w1 ⟨rfl,hb1⟩;replace B0:=lh (q0a B0.out hb1);replace K0:=lh (K0.out.keep hb1);clear hb1;go_wp2
        go_roundw
        case rel=>exact ⟨n+1,X+1,Y - 1,by omega,by rw [HX.out]; omega,by rw [HY.out]; omega,int_eq (by omega),int_eq (by omega),K0.out,B0.out⟩
        case measure=>simp [RowKit.intOf]; omega
       | false=>
        have hcy:cy=true:=hab;subst hcy;go_wp2_with fail
        refine (CX.out _ (EN.out.keep B0.out)).mono ?_;rintro e w1 ⟨rfl,hb1⟩;replace B0:=lh (q0a B0.out hb1);replace K0:=lh (K0.out.keep hb1);clear hb1;go_wp2_with fail
        refine (CY.out _ (EN.out.keep B0.out)).mono ?_;rintro e w1 ⟨rfl,hb1⟩;replace B0:=lh (q0a B0.out hb1);replace K0:=lh (K0.out.keep hb1);clear hb1;go_wp2
        go_roundw
        case rel=>exact ⟨n+1,X+1,Y - 1,by omega,by rw [HX.out]; omega,by rw [HY.out]; omega,int_eq (by omega),int_eq (by omega),K0.out,B0.out⟩
        case measure=>simp [RowKit.intOf]; omega
      ·obtain rfl:n=N:=by omega
       have hab:=EB.out;rw [← HX.out,← HY.out] at hab ST;unfold bar2 at hab;generalize barB X=bx at *;generalize barB Y=cy at *;clear AT EB hX hY;obtain ⟨rfl,rfl⟩:=Bool.or_eq_false_iff.1 hab;go_wp2_with fail
       refine (CX.out _ (EN.out.keep B0.out)).mono ?_;rintro e w1 ⟨rfl,hb1⟩;replace B0:=lh (q0a B0.out hb1);replace K0:=lh (K0.out.keep hb1);clear hb1;go_wp2_with fail
       refine (CY.out _ (EN.out.keep B0.out)).mono ?_;rintro e w1 ⟨rfl,hb1⟩;replace B0:=lh (q0a B0.out hb1);replace K0:=lh (K0.out.keep hb1);clear hb1;have PU:=lh ((K0.out.set_ 2 (.int .u8 (X:Int))).set_ 6 (.int .u8 (Y:Int)));rw [ST.out] at PU;have PB:=lh ((B0.out.setCell (p:=⟨w.heap.size,2,none⟩) (Nat.le_refl _) (.int .u8 (X:Int))).setCell (p:=⟨w.heap.size,6,none⟩) (Nat.le_refl _) (.int .u8 (Y:Int)));obtain ⟨x1,hx1⟩:=q0s v 1 0 2 (by omega);obtain ⟨x2,hx2⟩:=q0s v 1 0 6 (by omega);have f1:=K0.out.frozen 2;have f2:=(K0.out.set_ 2 (.int .u8 (X:Int))).frozen 6;have l1:=K0.out.at_ 2 hx1;have l2:=(K0.out.set_ 2 (.int .u8 (X:Int))).at_ 6 (by rw [Array.getElem?_setIfInBounds_ne (by omega)]; exact hx2);have u1:IntKind.u8.wrap (X:Int)=(X:Int):=(by rw [IntKind.wrap_u8]; omega);have u2:IntKind.u8.wrap (Y:Int)=(Y:Int):=(by rw [IntKind.wrap_u8]; omega);clear hx1 hx2 hab ST;go_wp2
       go_roundw
       case rel=>exact ⟨Or.inr (Or.inl ⟨by go_num,PU.out⟩),PB.out⟩
       case measure=>simp [RowKit.intOf]
    ·have K0:=lh hk;clear hk;have ST:Hid (((q0e v 1 1).setIfInBounds 10 (.int .u8 ((cx (byt v 1) 1:Nat):Int))).setIfInBounds 14 (.int .u8 ((cy (byt v 1) 1:Nat):Int))=q0e v 1 2):=q1h v 1 1 (by omega) (by omega);have hb:=byt_lt v 1;have AT:=lh (fun n (hn:n < nst (byt v 1) 1)=>bar_at hb (k:=1) (by omega) hn);obtain ⟨hN,hE0,hgx,hgy,-⟩:=bar_end hb (k:=1) (by omega);have EB:=lh hE0;have hqx:=qx_le (k:=1) hb;have hqv:qx (byt v 1) 1=(byt v 1) / 4+48:=(by unfold qx; simp);unfold cx cy at ST EB;unfold cx at hgx;unfold cy at hgy;have hc1:=q0u hgx;have hc2:=q0u hgy;clear hE0 hgx hgy;generalize nst (byt v 1) 1=N at *;generalize qx (byt v 1) 1=q at *;generalize byt v 1=b at *;obtain ⟨r,hr⟩:∃ r,r=b / 4+48:=⟨_,rfl⟩;rw [← hr] at ST EB AT hc2;have htm:(b:Int).tmod 4=(b:Int) % 4:=Int.tmod_eq_emod_of_nonneg (by omega);have htd:(b:Int).tdiv 4=(b:Int) / 4:=Int.tdiv_eq_ediv_of_nonneg (by omega);go_wp2_with fail
     go_loopw [7,8] (fun s7 s8 wv=>∃ n X Y:Nat,n≤N∧X=q+n∧Y=r - n∧s7=.int .i64 X∧s8=.int .i64 Y∧BlkV wv w.heap.size 133 (q0e v 1 1)∧Below w.heap.size w wv) (fun v _ _=>200 - (RowKit.intOf v).toNat)
     case atStart=>exact ⟨0,q,r,Nat.zero_le _,rfl,rfl,int_eq (by omega),int_eq (by omega),K0.out,B0.out⟩
     case round=>
      obtain ⟨n,X,Y,hn,hX,hY,rfl,rfl,hkk,hbw⟩:=hrel;have HX:=lh hX;have HY:=lh hY;have hXY:X≤150∧1≤Y∧Y≤200∧X=q+n:=(by omega);obtain ⟨hX1,hY1,hY2,-⟩:=hXY;replace K0:=lh hkk;replace B0:=lh hbw;clear hkk hbw htm htd;have CX:=lh (fun W (h:BarE W)=>q0f X (by omega) W h);have CY:=lh (fun W (h:BarE W)=>q0f Y (by omega) W h);by_cases hlt:n < N
      ·have hab:=AT.out n hlt;rw [← HX.out,← HY.out] at hab;unfold bar2 at hab;generalize barB X=bx at *;generalize barB Y=cy at *;clear AT EB ST hX hY
       cases bx with
       | true=>
        go_wp2_with fail
        refine (CX.out _ (EN.out.keep B0.out)).mono ?_;rintro e w1 ⟨rfl,hb1⟩;replace B0:=lh (q0a B0.out hb1);replace K0:=lh (K0.out.keep hb1);clear hb1;go_wp2
        go_roundw
        case rel=>exact ⟨n+1,X+1,Y - 1,by omega,by rw [HX.out]; omega,by rw [HY.out]; omega,int_eq (by omega),int_eq (by omega),K0.out,B0.out⟩
        case measure=>simp [RowKit.intOf]; omega
       | false=>
        have hcy:cy=true:=hab;subst hcy;go_wp2_with fail
        refine (CX.out _ (EN.out.keep B0.out)).mono ?_;rintro e w1 ⟨rfl,hb1⟩;replace B0:=lh (q0a B0.out hb1);replace K0:=lh (K0.out.keep hb1);clear hb1;go_wp2_with fail
        refine (CY.out _ (EN.out.keep B0.out)).mono ?_;rintro e w1 ⟨rfl,hb1⟩;replace B0:=lh (q0a B0.out hb1);replace K0:=lh (K0.out.keep hb1);clear hb1;go_wp2
        go_roundw
        case rel=>exact ⟨n+1,X+1,Y - 1,by omega,by rw [HX.out]; omega,by rw [HY.out]; omega,int_eq (by omega),int_eq (by omega),K0.out,B0.out⟩
        case measure=>simp [RowKit.intOf]; omega
      ·obtain rfl:n=N:=by omega
       have hab:=EB.out;rw [← HX.out,← HY.out] at hab ST;unfold bar2 at hab;generalize barB X=bx at *;generalize barB Y=cy at *;clear AT EB hX hY;obtain ⟨rfl,rfl⟩:=Bool.or_eq_false_iff.1 hab;go_wp2_with fail
       refine (CX.out _ (EN.out.keep B0.out)).mono ?_;rintro e w1 ⟨rfl,hb1⟩;replace B0:=lh (q0a B0.out hb1);replace K0:=lh (K0.out.keep hb1);clear hb1;go_wp2_with fail
       refine (CY.out _ (EN.out.keep B0.out)).mono ?_;rintro e w1 ⟨rfl,hb1⟩;replace B0:=lh (q0a B0.out hb1);replace K0:=lh (K0.out.keep hb1);clear hb1;have PU:=lh ((K0.out.set_ 10 (.int .u8 (X:Int))).set_ 14 (.int .u8 (Y:Int)));rw [ST.out] at PU;have PB:=lh ((B0.out.setCell (p:=⟨w.heap.size,10,none⟩) (Nat.le_refl _) (.int .u8 (X:Int))).setCell (p:=⟨w.heap.size,14,none⟩) (Nat.le_refl _) (.int .u8 (Y:Int)));obtain ⟨x1,hx1⟩:=q0s v 1 1 10 (by omega);obtain ⟨x2,hx2⟩:=q0s v 1 1 14 (by omega);have f1:=K0.out.frozen 10;have f2:=(K0.out.set_ 10 (.int .u8 (X:Int))).frozen 14;have l1:=K0.out.at_ 10 hx1;have l2:=(K0.out.set_ 10 (.int .u8 (X:Int))).at_ 14 (by rw [Array.getElem?_setIfInBounds_ne (by omega)]; exact hx2);have u1:IntKind.u8.wrap (X:Int)=(X:Int):=(by rw [IntKind.wrap_u8]; omega);have u2:IntKind.u8.wrap (Y:Int)=(Y:Int):=(by rw [IntKind.wrap_u8]; omega);clear hx1 hx2 hab ST;go_wp2
       go_roundw
       case rel=>exact ⟨Or.inr (Or.inr ⟨by go_num,PU.out⟩),PB.out⟩
       case measure=>simp [RowKit.intOf]
    ·have K0:=lh hk;clear hk;have CN:=lh (cellsC_next v 1 (by omega));rw [CN.out] at K0;go_wp2
     go_roundw
     case rel=>exact ⟨Or.inr (Or.inr (Or.inl ⟨by go_num,K0.out⟩)),B0.out⟩
     case measure=>simp [RowKit.intOf]
  ·have K0:=lh hk;clear hk;go_wp2
   have BY:Hid (wrap64 (bits .and .u32 ((v:Int) / 256) 255)=(byt v 2:Int)):=byt_val v 2 hv _ (by show _=((v / 256:Nat):Int); omega);rw [BY.out];clear BY BA;go_loopw [19] (fun s19 wu=>((s19=.int .i64 0∧BlkV wu w.heap.size 133 (q0e v 2 0))∨(s19=.int .i64 1∧BlkV wu w.heap.size 133 (q0e v 2 1))∨(s19=.int .i64 2∧BlkV wu w.heap.size 133 (q0e v 2 2)))∧Below w.heap.size w wu) (fun v _=>2 - (RowKit.intOf v).toNat)
   case atStart=>exact ⟨Or.inl ⟨rfl,K0.out⟩,B0.out⟩
   case round=>
    obtain ⟨hcs,hbw⟩:=hrel;replace B0:=lh hbw;clear hbw K0;obtain ⟨rfl,hk⟩ | ⟨rfl,hk⟩ | ⟨rfl,hk⟩:=hcs
    ·have K0:=lh hk;clear hk;have ST:Hid (((q0e v 2 0).setIfInBounds 3 (.int .u8 ((cx (byt v 2) 0:Nat):Int))).setIfInBounds 7 (.int .u8 ((cy (byt v 2) 0:Nat):Int))=q0e v 2 1):=q1h v 2 0 (by omega) (by omega);have hb:=byt_lt v 2;have AT:=lh (fun n (hn:n < nst (byt v 2) 0)=>bar_at hb (k:=0) (by omega) hn);obtain ⟨hN,hE0,hgx,hgy,-⟩:=bar_end hb (k:=0) (by omega);have EB:=lh hE0;have hqx:=qx_le (k:=0) hb;have hqv:qx (byt v 2) 0=(byt v 2) / 4+48+(byt v 2) % 4:=(by unfold qx; simp);unfold cx cy at ST EB;unfold cx at hgx;unfold cy at hgy;have hc1:=q0u hgx;have hc2:=q0u hgy;clear hE0 hgx hgy;generalize nst (byt v 2) 0=N at *;generalize qx (byt v 2) 0=q at *;generalize byt v 2=b at *;obtain ⟨r,hr⟩:∃ r,r=b / 4+48:=⟨_,rfl⟩;rw [← hr] at ST EB AT hc2;have htm:(b:Int).tmod 4=(b:Int) % 4:=Int.tmod_eq_emod_of_nonneg (by omega);have htd:(b:Int).tdiv 4=(b:Int) / 4:=Int.tdiv_eq_ediv_of_nonneg (by omega);go_wp2_with fail
     go_loopw [7,8] (fun s7 s8 wv=>∃ n X Y:Nat,n≤N∧X=q+n∧Y=r - n∧s7=.int .i64 X∧s8=.int .i64 Y∧BlkV wv w.heap.size 133 (q0e v 2 0)∧Below w.heap.size w wv) (fun v _ _=>200 - (RowKit.intOf v).toNat)
     case atStart=>exact ⟨0,q,r,Nat.zero_le _,rfl,rfl,int_eq (by omega),int_eq (by omega),K0.out,B0.out⟩
     case round=>
      obtain ⟨n,X,Y,hn,hX,hY,rfl,rfl,hkk,hbw⟩:=hrel;have HX:=lh hX;have HY:=lh hY;have hXY:X≤150∧1≤Y∧Y≤200∧X=q+n:=(by omega);obtain ⟨hX1,hY1,hY2,-⟩:=hXY;replace K0:=lh hkk;replace B0:=lh hbw;clear hkk hbw htm htd;have CX:=lh (fun W (h:BarE W)=>q0f X (by omega) W h);have CY:=lh (fun W (h:BarE W)=>q0f Y (by omega) W h);by_cases hlt:n < N
      ·have hab:=AT.out n hlt;rw [← HX.out,← HY.out] at hab;unfold bar2 at hab;generalize barB X=bx at *;generalize barB Y=cy at *;clear AT EB ST hX hY
       cases bx with
       | true=>
        go_wp2_with fail
        refine (CX.out _ (EN.out.keep B0.out)).mono ?_;rintro e w1 ⟨rfl,hb1⟩;replace B0:=lh (q0a B0.out hb1);replace K0:=lh (K0.out.keep hb1);clear hb1;go_wp2
        go_roundw
        case rel=>exact ⟨n+1,X+1,Y - 1,by omega,by rw [HX.out]; omega,by rw [HY.out]; omega,int_eq (by omega),int_eq (by omega),K0.out,B0.out⟩
        case measure=>simp [RowKit.intOf]; omega
       | false=>
        have hcy:cy=true:=hab;subst hcy;go_wp2_with fail
        refine (CX.out _ (EN.out.keep B0.out)).mono ?_;rintro e w1 ⟨rfl,hb1⟩;replace B0:=lh (q0a B0.out hb1);replace K0:=lh (K0.out.keep hb1);clear hb1;go_wp2_with fail
        refine (CY.out _ (EN.out.keep B0.out)).mono ?_;rintro e w1 ⟨rfl,hb1⟩;replace B0:=lh (q0a B0.out hb1);replace K0:=lh (K0.out.keep hb1);clear hb1;go_wp2
        go_roundw
        case rel=>exact ⟨n+1,X+1,Y - 1,by omega,by rw [HX.out]; omega,by rw [HY.out]; omega,int_eq (by omega),int_eq (by omega),K0.out,B0.out⟩
        case measure=>simp [RowKit.intOf]; omega
      ·obtain rfl:n=N:=by omega
       have hab:=EB.out;rw [← HX.out,← HY.out] at hab ST;unfold bar2 at hab;generalize barB X=bx at *;generalize barB Y=cy at *;clear AT EB hX hY;obtain ⟨rfl,rfl⟩:=Bool.or_eq_false_iff.1 hab;go_wp2_with fail
       refine (CX.out _ (EN.out.keep B0.out)).mono ?_;rintro e w1 ⟨rfl,hb1⟩;replace B0:=lh (q0a B0.out hb1);replace K0:=lh (K0.out.keep hb1);clear hb1;go_wp2_with fail
       refine (CY.out _ (EN.out.keep B0.out)).mono ?_;rintro e w1 ⟨rfl,hb1⟩;replace B0:=lh (q0a B0.out hb1);replace K0:=lh (K0.out.keep hb1);clear hb1;have PU:=lh ((K0.out.set_ 3 (.int .u8 (X:Int))).set_ 7 (.int .u8 (Y:Int)));rw [ST.out] at PU;have PB:=lh ((B0.out.setCell (p:=⟨w.heap.size,3,none⟩) (Nat.le_refl _) (.int .u8 (X:Int))).setCell (p:=⟨w.heap.size,7,none⟩) (Nat.le_refl _) (.int .u8 (Y:Int)));obtain ⟨x1,hx1⟩:=q0s v 2 0 3 (by omega);obtain ⟨x2,hx2⟩:=q0s v 2 0 7 (by omega);have f1:=K0.out.frozen 3;have f2:=(K0.out.set_ 3 (.int .u8 (X:Int))).frozen 7;have l1:=K0.out.at_ 3 hx1;have l2:=(K0.out.set_ 3 (.int .u8 (X:Int))).at_ 7 (by rw [Array.getElem?_setIfInBounds_ne (by omega)]; exact hx2);have u1:IntKind.u8.wrap (X:Int)=(X:Int):=(by rw [IntKind.wrap_u8]; omega);have u2:IntKind.u8.wrap (Y:Int)=(Y:Int):=(by rw [IntKind.wrap_u8]; omega);clear hx1 hx2 hab ST;go_wp2
       go_roundw
       case rel=>exact ⟨Or.inr (Or.inl ⟨by go_num,PU.out⟩),PB.out⟩
       case measure=>simp [RowKit.intOf]
    ·have K0:=lh hk;clear hk;have ST:Hid (((q0e v 2 1).setIfInBounds 11 (.int .u8 ((cx (byt v 2) 1:Nat):Int))).setIfInBounds 15 (.int .u8 ((cy (byt v 2) 1:Nat):Int))=q0e v 2 2):=q1h v 2 1 (by omega) (by omega);have hb:=byt_lt v 2;have AT:=lh (fun n (hn:n < nst (byt v 2) 1)=>bar_at hb (k:=1) (by omega) hn);obtain ⟨hN,hE0,hgx,hgy,-⟩:=bar_end hb (k:=1) (by omega);have EB:=lh hE0;have hqx:=qx_le (k:=1) hb;have hqv:qx (byt v 2) 1=(byt v 2) / 4+48:=(by unfold qx; simp);unfold cx cy at ST EB;unfold cx at hgx;unfold cy at hgy;have hc1:=q0u hgx;have hc2:=q0u hgy;clear hE0 hgx hgy;generalize nst (byt v 2) 1=N at *;generalize qx (byt v 2) 1=q at *;generalize byt v 2=b at *;obtain ⟨r,hr⟩:∃ r,r=b / 4+48:=⟨_,rfl⟩;rw [← hr] at ST EB AT hc2;have htm:(b:Int).tmod 4=(b:Int) % 4:=Int.tmod_eq_emod_of_nonneg (by omega);have htd:(b:Int).tdiv 4=(b:Int) / 4:=Int.tdiv_eq_ediv_of_nonneg (by omega);go_wp2_with fail
     go_loopw [7,8] (fun s7 s8 wv=>∃ n X Y:Nat,n≤N∧X=q+n∧Y=r - n∧s7=.int .i64 X∧s8=.int .i64 Y∧BlkV wv w.heap.size 133 (q0e v 2 1)∧Below w.heap.size w wv) (fun v _ _=>200 - (RowKit.intOf v).toNat)
     case atStart=>exact ⟨0,q,r,Nat.zero_le _,rfl,rfl,int_eq (by omega),int_eq (by omega),K0.out,B0.out⟩
     case round=>
      obtain ⟨n,X,Y,hn,hX,hY,rfl,rfl,hkk,hbw⟩:=hrel;have HX:=lh hX;have HY:=lh hY;have hXY:X≤150∧1≤Y∧Y≤200∧X=q+n:=(by omega);obtain ⟨hX1,hY1,hY2,-⟩:=hXY;replace K0:=lh hkk;replace B0:=lh hbw;clear hkk hbw htm htd;have CX:=lh (fun W (h:BarE W)=>q0f X (by omega) W h);have CY:=lh (fun W (h:BarE W)=>q0f Y (by omega) W h);by_cases hlt:n < N
      ·have hab:=AT.out n hlt;rw [← HX.out,← HY.out] at hab;unfold bar2 at hab;generalize barB X=bx at *;generalize barB Y=cy at *;clear AT EB ST hX hY
       cases bx with
       | true=>
        go_wp2_with fail
        refine (CX.out _ (EN.out.keep B0.out)).mono ?_;rintro e w1 ⟨rfl,hb1⟩;replace B0:=lh (q0a B0.out hb1);replace K0:=lh (K0.out.keep hb1);clear hb1;go_wp2
        go_roundw
        case rel=>exact ⟨n+1,X+1,Y - 1,by omega,by rw [HX.out]; omega,by rw [HY.out]; omega,int_eq (by omega),int_eq (by omega),K0.out,B0.out⟩
        case measure=>simp [RowKit.intOf]; omega
       | false=>
        have hcy:cy=true:=hab;subst hcy;go_wp2_with fail
        refine (CX.out _ (EN.out.keep B0.out)).mono ?_;rintro e w1 ⟨rfl,hb1⟩;replace B0:=lh (q0a B0.out hb1);replace K0:=lh (K0.out.keep hb1);clear hb1;go_wp2_with fail
        refine (CY.out _ (EN.out.keep B0.out)).mono ?_;rintro e w1 ⟨rfl,hb1⟩;replace B0:=lh (q0a B0.out hb1);replace K0:=lh (K0.out.keep hb1);clear hb1;go_wp2
        go_roundw
        case rel=>exact ⟨n+1,X+1,Y - 1,by omega,by rw [HX.out]; omega,by rw [HY.out]; omega,int_eq (by omega),int_eq (by omega),K0.out,B0.out⟩
        case measure=>simp [RowKit.intOf]; omega
      ·obtain rfl:n=N:=by omega
       have hab:=EB.out;rw [← HX.out,← HY.out] at hab ST;unfold bar2 at hab;generalize barB X=bx at *;generalize barB Y=cy at *;clear AT EB hX hY;obtain ⟨rfl,rfl⟩:=Bool.or_eq_false_iff.1 hab;go_wp2_with fail
       refine (CX.out _ (EN.out.keep B0.out)).mono ?_;rintro e w1 ⟨rfl,hb1⟩;replace B0:=lh (q0a B0.out hb1);replace K0:=lh (K0.out.keep hb1);clear hb1;go_wp2_with fail
       refine (CY.out _ (EN.out.keep B0.out)).mono ?_;rintro e w1 ⟨rfl,hb1⟩;replace B0:=lh (q0a B0.out hb1);replace K0:=lh (K0.out.keep hb1);clear hb1;have PU:=lh ((K0.out.set_ 11 (.int .u8 (X:Int))).set_ 15 (.int .u8 (Y:Int)));rw [ST.out] at PU;have PB:=lh ((B0.out.setCell (p:=⟨w.heap.size,11,none⟩) (Nat.le_refl _) (.int .u8 (X:Int))).setCell (p:=⟨w.heap.size,15,none⟩) (Nat.le_refl _) (.int .u8 (Y:Int)));obtain ⟨x1,hx1⟩:=q0s v 2 1 11 (by omega);obtain ⟨x2,hx2⟩:=q0s v 2 1 15 (by omega);have f1:=K0.out.frozen 11;have f2:=(K0.out.set_ 11 (.int .u8 (X:Int))).frozen 15;have l1:=K0.out.at_ 11 hx1;have l2:=(K0.out.set_ 11 (.int .u8 (X:Int))).at_ 15 (by rw [Array.getElem?_setIfInBounds_ne (by omega)]; exact hx2);have u1:IntKind.u8.wrap (X:Int)=(X:Int):=(by rw [IntKind.wrap_u8]; omega);have u2:IntKind.u8.wrap (Y:Int)=(Y:Int):=(by rw [IntKind.wrap_u8]; omega);clear hx1 hx2 hab ST;go_wp2
       go_roundw
       case rel=>exact ⟨Or.inr (Or.inr ⟨by go_num,PU.out⟩),PB.out⟩
       case measure=>simp [RowKit.intOf]
    ·have K0:=lh hk;clear hk;have CN:=lh (cellsC_next v 2 (by omega));rw [CN.out] at K0;go_wp2
     go_roundw
     case rel=>exact ⟨Or.inr (Or.inr (Or.inr (Or.inl ⟨by go_num,K0.out⟩))),B0.out⟩
     case measure=>simp [RowKit.intOf]
  ·have K0:=lh hk;clear hk;go_wp2
   have BY:Hid (wrap64 (bits .and .u32 ((v:Int)) 255)=(byt v 3:Int)):=byt_val v 3 hv _ (by show _=((v / 1:Nat):Int); omega);rw [BY.out];clear BY BA;go_loopw [19] (fun s19 wu=>((s19=.int .i64 0∧BlkV wu w.heap.size 133 (q0e v 3 0))∨(s19=.int .i64 1∧BlkV wu w.heap.size 133 (q0e v 3 1))∨(s19=.int .i64 2∧BlkV wu w.heap.size 133 (q0e v 3 2)))∧Below w.heap.size w wu) (fun v _=>2 - (RowKit.intOf v).toNat)
   case atStart=>exact ⟨Or.inl ⟨rfl,K0.out⟩,B0.out⟩
   case round=>
    obtain ⟨hcs,hbw⟩:=hrel;replace B0:=lh hbw;clear hbw K0;obtain ⟨rfl,hk⟩ | ⟨rfl,hk⟩ | ⟨rfl,hk⟩:=hcs
    ·have K0:=lh hk;clear hk;have ST:Hid (((q0e v 3 0).setIfInBounds 4 (.int .u8 ((cx (byt v 3) 0:Nat):Int))).setIfInBounds 8 (.int .u8 ((cy (byt v 3) 0:Nat):Int))=q0e v 3 1):=q1h v 3 0 (by omega) (by omega);have hb:=byt_lt v 3;have AT:=lh (fun n (hn:n < nst (byt v 3) 0)=>bar_at hb (k:=0) (by omega) hn);obtain ⟨hN,hE0,hgx,hgy,-⟩:=bar_end hb (k:=0) (by omega);have EB:=lh hE0;have hqx:=qx_le (k:=0) hb;have hqv:qx (byt v 3) 0=(byt v 3) / 4+48+(byt v 3) % 4:=(by unfold qx; simp);unfold cx cy at ST EB;unfold cx at hgx;unfold cy at hgy;have hc1:=q0u hgx;have hc2:=q0u hgy;clear hE0 hgx hgy;generalize nst (byt v 3) 0=N at *;generalize qx (byt v 3) 0=q at *;generalize byt v 3=b at *;obtain ⟨r,hr⟩:∃ r,r=b / 4+48:=⟨_,rfl⟩;rw [← hr] at ST EB AT hc2;have htm:(b:Int).tmod 4=(b:Int) % 4:=Int.tmod_eq_emod_of_nonneg (by omega);have htd:(b:Int).tdiv 4=(b:Int) / 4:=Int.tdiv_eq_ediv_of_nonneg (by omega);go_wp2_with fail
     go_loopw [7,8] (fun s7 s8 wv=>∃ n X Y:Nat,n≤N∧X=q+n∧Y=r - n∧s7=.int .i64 X∧s8=.int .i64 Y∧BlkV wv w.heap.size 133 (q0e v 3 0)∧Below w.heap.size w wv) (fun v _ _=>200 - (RowKit.intOf v).toNat)
     case atStart=>exact ⟨0,q,r,Nat.zero_le _,rfl,rfl,int_eq (by omega),int_eq (by omega),K0.out,B0.out⟩
     case round=>
      obtain ⟨n,X,Y,hn,hX,hY,rfl,rfl,hkk,hbw⟩:=hrel;have HX:=lh hX;have HY:=lh hY;have hXY:X≤150∧1≤Y∧Y≤200∧X=q+n:=(by omega);obtain ⟨hX1,hY1,hY2,-⟩:=hXY;replace K0:=lh hkk;replace B0:=lh hbw;clear hkk hbw htm htd;have CX:=lh (fun W (h:BarE W)=>q0f X (by omega) W h);have CY:=lh (fun W (h:BarE W)=>q0f Y (by omega) W h);by_cases hlt:n < N
      ·have hab:=AT.out n hlt;rw [← HX.out,← HY.out] at hab;unfold bar2 at hab;generalize barB X=bx at *;generalize barB Y=cy at *;clear AT EB ST hX hY
       cases bx with
       | true=>
        go_wp2_with fail
        refine (CX.out _ (EN.out.keep B0.out)).mono ?_;rintro e w1 ⟨rfl,hb1⟩;replace B0:=lh (q0a B0.out hb1);replace K0:=lh (K0.out.keep hb1);clear hb1;go_wp2
        go_roundw
        case rel=>exact ⟨n+1,X+1,Y - 1,by omega,by rw [HX.out]; omega,by rw [HY.out]; omega,int_eq (by omega),int_eq (by omega),K0.out,B0.out⟩
        case measure=>simp [RowKit.intOf]; omega
       | false=>
        have hcy:cy=true:=hab;subst hcy;go_wp2_with fail
        refine (CX.out _ (EN.out.keep B0.out)).mono ?_;rintro e w1 ⟨rfl,hb1⟩;replace B0:=lh (q0a B0.out hb1);replace K0:=lh (K0.out.keep hb1);clear hb1;go_wp2_with fail
        refine (CY.out _ (EN.out.keep B0.out)).mono ?_;rintro e w1 ⟨rfl,hb1⟩;replace B0:=lh (q0a B0.out hb1);replace K0:=lh (K0.out.keep hb1);clear hb1;go_wp2
        go_roundw
        case rel=>exact ⟨n+1,X+1,Y - 1,by omega,by rw [HX.out]; omega,by rw [HY.out]; omega,int_eq (by omega),int_eq (by omega),K0.out,B0.out⟩
        case measure=>simp [RowKit.intOf]; omega
      ·obtain rfl:n=N:=by omega
       have hab:=EB.out;rw [← HX.out,← HY.out] at hab ST;unfold bar2 at hab;generalize barB X=bx at *;generalize barB Y=cy at *;clear AT EB hX hY;obtain ⟨rfl,rfl⟩:=Bool.or_eq_false_iff.1 hab;go_wp2_with fail
       refine (CX.out _ (EN.out.keep B0.out)).mono ?_;rintro e w1 ⟨rfl,hb1⟩;replace B0:=lh (q0a B0.out hb1);replace K0:=lh (K0.out.keep hb1);clear hb1;go_wp2_with fail
       refine (CY.out _ (EN.out.keep B0.out)).mono ?_;rintro e w1 ⟨rfl,hb1⟩;replace B0:=lh (q0a B0.out hb1);replace K0:=lh (K0.out.keep hb1);clear hb1;have PU:=lh ((K0.out.set_ 4 (.int .u8 (X:Int))).set_ 8 (.int .u8 (Y:Int)));rw [ST.out] at PU;have PB:=lh ((B0.out.setCell (p:=⟨w.heap.size,4,none⟩) (Nat.le_refl _) (.int .u8 (X:Int))).setCell (p:=⟨w.heap.size,8,none⟩) (Nat.le_refl _) (.int .u8 (Y:Int)));obtain ⟨x1,hx1⟩:=q0s v 3 0 4 (by omega);obtain ⟨x2,hx2⟩:=q0s v 3 0 8 (by omega);have f1:=K0.out.frozen 4;have f2:=(K0.out.set_ 4 (.int .u8 (X:Int))).frozen 8;have l1:=K0.out.at_ 4 hx1;have l2:=(K0.out.set_ 4 (.int .u8 (X:Int))).at_ 8 (by rw [Array.getElem?_setIfInBounds_ne (by omega)]; exact hx2);have u1:IntKind.u8.wrap (X:Int)=(X:Int):=(by rw [IntKind.wrap_u8]; omega);have u2:IntKind.u8.wrap (Y:Int)=(Y:Int):=(by rw [IntKind.wrap_u8]; omega);clear hx1 hx2 hab ST;go_wp2
       go_roundw
       case rel=>exact ⟨Or.inr (Or.inl ⟨by go_num,PU.out⟩),PB.out⟩
       case measure=>simp [RowKit.intOf]
    ·have K0:=lh hk;clear hk;have ST:Hid (((q0e v 3 1).setIfInBounds 12 (.int .u8 ((cx (byt v 3) 1:Nat):Int))).setIfInBounds 0 (.int .u8 ((cy (byt v 3) 1:Nat):Int))=q0e v 3 2):=q1h v 3 1 (by omega) (by omega);have hb:=byt_lt v 3;have AT:=lh (fun n (hn:n < nst (byt v 3) 1)=>bar_at hb (k:=1) (by omega) hn);obtain ⟨hN,hE0,hgx,hgy,-⟩:=bar_end hb (k:=1) (by omega);have EB:=lh hE0;have hqx:=qx_le (k:=1) hb;have hqv:qx (byt v 3) 1=(byt v 3) / 4+48:=(by unfold qx; simp);unfold cx cy at ST EB;unfold cx at hgx;unfold cy at hgy;have hc1:=q0u hgx;have hc2:=q0u hgy;clear hE0 hgx hgy;generalize nst (byt v 3) 1=N at *;generalize qx (byt v 3) 1=q at *;generalize byt v 3=b at *;obtain ⟨r,hr⟩:∃ r,r=b / 4+48:=⟨_,rfl⟩;rw [← hr] at ST EB AT hc2;have htm:(b:Int).tmod 4=(b:Int) % 4:=Int.tmod_eq_emod_of_nonneg (by omega);have htd:(b:Int).tdiv 4=(b:Int) / 4:=Int.tdiv_eq_ediv_of_nonneg (by omega);go_wp2_with fail
     go_loopw [7,8] (fun s7 s8 wv=>∃ n X Y:Nat,n≤N∧X=q+n∧Y=r - n∧s7=.int .i64 X∧s8=.int .i64 Y∧BlkV wv w.heap.size 133 (q0e v 3 1)∧Below w.heap.size w wv) (fun v _ _=>200 - (RowKit.intOf v).toNat)
     case atStart=>exact ⟨0,q,r,Nat.zero_le _,rfl,rfl,int_eq (by omega),int_eq (by omega),K0.out,B0.out⟩
     case round=>
      obtain ⟨n,X,Y,hn,hX,hY,rfl,rfl,hkk,hbw⟩:=hrel;have HX:=lh hX;have HY:=lh hY;have hXY:X≤150∧1≤Y∧Y≤200∧X=q+n:=(by omega);obtain ⟨hX1,hY1,hY2,-⟩:=hXY;replace K0:=lh hkk;replace B0:=lh hbw;clear hkk hbw htm htd;have CX:=lh (fun W (h:BarE W)=>q0f X (by omega) W h);have CY:=lh (fun W (h:BarE W)=>q0f Y (by omega) W h);by_cases hlt:n < N
      ·have hab:=AT.out n hlt;rw [← HX.out,← HY.out] at hab;unfold bar2 at hab;generalize barB X=bx at *;generalize barB Y=cy at *;clear AT EB ST hX hY
       cases bx with
       | true=>
        go_wp2_with fail
        refine (CX.out _ (EN.out.keep B0.out)).mono ?_;rintro e w1 ⟨rfl,hb1⟩;replace B0:=lh (q0a B0.out hb1);replace K0:=lh (K0.out.keep hb1);clear hb1;go_wp2
        go_roundw
        case rel=>exact ⟨n+1,X+1,Y - 1,by omega,by rw [HX.out]; omega,by rw [HY.out]; omega,int_eq (by omega),int_eq (by omega),K0.out,B0.out⟩
        case measure=>simp [RowKit.intOf]; omega
       | false=>
        have hcy:cy=true:=hab;subst hcy;go_wp2_with fail
        refine (CX.out _ (EN.out.keep B0.out)).mono ?_;rintro e w1 ⟨rfl,hb1⟩;replace B0:=lh (q0a B0.out hb1);replace K0:=lh (K0.out.keep hb1);clear hb1;go_wp2_with fail
        refine (CY.out _ (EN.out.keep B0.out)).mono ?_;rintro e w1 ⟨rfl,hb1⟩;replace B0:=lh (q0a B0.out hb1);replace K0:=lh (K0.out.keep hb1);clear hb1;go_wp2
        go_roundw
        case rel=>exact ⟨n+1,X+1,Y - 1,by omega,by rw [HX.out]; omega,by rw [HY.out]; omega,int_eq (by omega),int_eq (by omega),K0.out,B0.out⟩
        case measure=>simp [RowKit.intOf]; omega
      ·obtain rfl:n=N:=by omega
       have hab:=EB.out;rw [← HX.out,← HY.out] at hab ST;unfold bar2 at hab;generalize barB X=bx at *;generalize barB Y=cy at *;clear AT EB hX hY;obtain ⟨rfl,rfl⟩:=Bool.or_eq_false_iff.1 hab;go_wp2_with fail
       refine (CX.out _ (EN.out.keep B0.out)).mono ?_;rintro e w1 ⟨rfl,hb1⟩;replace B0:=lh (q0a B0.out hb1);replace K0:=lh (K0.out.keep hb1);clear hb1;go_wp2_with fail
       refine (CY.out _ (EN.out.keep B0.out)).mono ?_;rintro e w1 ⟨rfl,hb1⟩;replace B0:=lh (q0a B0.out hb1);replace K0:=lh (K0.out.keep hb1);clear hb1;have PU:=lh ((K0.out.set_ 12 (.int .u8 (X:Int))).set_ 0 (.int .u8 (Y:Int)));rw [ST.out] at PU;have PB:=lh ((B0.out.setCell (p:=⟨w.heap.size,12,none⟩) (Nat.le_refl _) (.int .u8 (X:Int))).setCell (p:=⟨w.heap.size,0,none⟩) (Nat.le_refl _) (.int .u8 (Y:Int)));obtain ⟨x1,hx1⟩:=q0s v 3 1 12 (by omega);obtain ⟨x2,hx2⟩:=q0s v 3 1 0 (by omega);have f1:=K0.out.frozen 12;have f2:=(K0.out.set_ 12 (.int .u8 (X:Int))).frozen 0;have l1:=K0.out.at_ 12 hx1;have l2:=(K0.out.set_ 12 (.int .u8 (X:Int))).at_ 0 (by rw [Array.getElem?_setIfInBounds_ne (by omega)]; exact hx2);have u1:IntKind.u8.wrap (X:Int)=(X:Int):=(by rw [IntKind.wrap_u8]; omega);have u2:IntKind.u8.wrap (Y:Int)=(Y:Int):=(by rw [IntKind.wrap_u8]; omega);clear hx1 hx2 hab ST;go_wp2
       go_roundw
       case rel=>exact ⟨Or.inr (Or.inr ⟨by go_num,PU.out⟩),PB.out⟩
       case measure=>simp [RowKit.intOf]
    ·have K0:=lh hk;clear hk;have CN:=lh (cellsC_next v 3 (by omega));rw [CN.out] at K0;go_wp2
     go_roundw
     case rel=>exact ⟨Or.inr (Or.inr (Or.inr (Or.inr (⟨by go_num,K0.out⟩)))),B0.out⟩
     case measure=>simp [RowKit.intOf]
  ·have K0:=lh hk;clear hk;have hcv:Hid (∀ W,BlkV W w.heap.size 133 (q0e v 4 0)→(convert 73 9 (.slice (some ⟨w.heap.size,0,none⟩) 16 16)).run Tryz.prog W=.ok (.string ⟨(codeS v).toArray⟩) W):=fun W hW=>code_conv v W w.heap.size hW;go_wp2
   rw [hcv.out _ K0.out];go_wp2
   go_ret
   exact ⟨rfl,B0.out⟩
theorem fill_nil (x:UInt8):(fillS [] x).length=0:=rfl
theorem fill0 (w:World):Calls Tryz.prog 141 #[.slice none 0 0,.int .u8 0] w fun e w'=>∃ g,e=.returned (.slice (some ⟨g,0,none⟩) (fillS [] 0).length (fillS [] 0).length)∧w.heap.size≤g∧BlkV w' g 5 (Lib.byteCells (fillS [] 0)).toArray∧Below w.heap.size w w':=
 fill_any [] none 0 0 0 (by simp) w (fun h=>by simp [Lib.byteCells] at h)
theorem conv_nil (W:World) (g:Nat):(convert 73 9 (.slice (some ⟨g,0,none⟩) 0 0)).run Tryz.prog W=.ok (.string ⟨#[]⟩) W:=
 run_convert_bytes_back (P:=Tryz.prog) W 73 9 5 ⟨g,0,none⟩ 0 [] (by kernel_rfl) (by kernel_rfl) (by kernel_rfl) (fun j hj=>by simp at hj)
theorem size8 (w:World):Calls Tryz.prog 100 #[.agg #[.int .i64 8,.slice none 0 0]] w fun e w'=>e=.returned (.tuple #[.int .i64 0,.bool true])∧Below w.heap.size w w':=by
 have B0:=lh (fun o=>blw1 w o);go_enter Tryz.func100,Tryz.ntmps100
 go_wp2
 have HB:=B0.out (.cells #[Value.int .i64 8,.slice none 0 0] 129);generalize hw0:w.alloc (.cells #[Value.int .i64 8,.slice none 0 0] 129)=w0 at *;clear hw0;go_loopw [4,38] (fun s s2 wr=>s=.int .i64 0∧s2=.int .i64 0∧wr=w0) (fun _ _ _=>0)
 case atStart=>exact ⟨rfl,rfl,rfl⟩
 case round=>
  obtain ⟨rfl,rfl,rfl⟩:=hrel;go_wp2
  go_ret2
  exact ⟨rfl,HB⟩
theorem data8 (w:World):Calls Tryz.prog 135 #[.agg #[.int .i64 8,.slice none 0 0,.slice none 0 0,.slice none 0 0]] w fun e w'=>e=.returned (.string ⟨#[]⟩)∧Below w.heap.size w w':=by
 have FL:=lh (fun W=>fill0 W);have zc:=lh (fun W g=>conv_nil W g);have B0:=lh (fun o=>blw1 w o);go_enter Tryz.func135,Tryz.ntmps135
 go_wp2_with fail
 have HB:=lh (B0.out (.cells #[Value.int .i64 8,.slice none 0 0,.slice none 0 0,.slice none 0 0] 53));generalize hw0:w.alloc (.cells #[Value.int .i64 8,.slice none 0 0,.slice none 0 0,.slice none 0 0] 53)=w0 at *;clear hw0;go_loopw [3,10] (fun s s2 wr=>s=.slice none 0 0∧s2=.int .i64 0∧wr=w0) (fun _ _ _=>0)
 case atStart=>exact ⟨rfl,rfl,rfl⟩
 case round=>
  obtain ⟨rfl,rfl,rfl⟩:=hrel;go_wp2_with fail
  refine (FL.out _).mono ?_;rintro e w1 ⟨g,rfl,-,hk,hb⟩;replace HB:=lh (q0a HB.out hb);clear hb;have hcv:=zc.out w1 g;rw [fill_nil];go_wp2
  go_ret
  exact ⟨rfl,HB.out⟩
theorem check8 (w:World):Calls Tryz.prog 44 #[.agg #[.int .i64 8,.slice none 0 0,.slice none 0 0,.slice none 0 0]] w fun e w'=>e=.returned (.int .i64 0)∧Below w.heap.size w w':=by
 have SZ:=lh size8;have B0:=lh (fun o=>blw1 w o);have K0:Hid (BlkV (w.alloc (.cells #[Value.int .i64 8,.slice none 0 0,.slice none 0 0,.slice none 0 0] 53)) w.heap.size 53 #[Value.int .i64 8,.slice none 0 0,.slice none 0 0,.slice none 0 0]):=BlkV.fresh rfl _ _;have K1:Hid (BlkV ((w.alloc (.cells #[Value.int .i64 8,.slice none 0 0,.slice none 0 0,.slice none 0 0] 53)).alloc (.cells #[Value.int .i64 8,.slice none 0 0] 129)) w.heap.size 53 #[Value.int .i64 8,.slice none 0 0,.slice none 0 0,.slice none 0 0]):=K0.out.alloc _;have HB:Hid (Below w.heap.size w ((w.alloc (.cells #[Value.int .i64 8,.slice none 0 0,.slice none 0 0,.slice none 0 0] 53)).alloc (.cells #[Value.int .i64 8,.slice none 0 0] 129))):=q0a (B0.out _) (blw1 _ _);clear K0 B0;go_enter Tryz.func44,Tryz.ntmps44
 go_wp2_with fail
 generalize ((w.alloc (.cells #[Value.int .i64 8,.slice none 0 0,.slice none 0 0,.slice none 0 0] 53)).alloc (.cells #[Value.int .i64 8,.slice none 0 0] 129))=w0 at *;refine (SZ.out _).mono ?_;rintro e w1 ⟨rfl,hb⟩;replace K1:=lh (K1.out.keep hb);replace HB:=lh (q0a HB.out hb);clear hb;have c2:w1.cell? ⟨w.heap.size,2,none⟩=some (.slice none 0 0):=K1.out.at_ 2 rfl;have c3:w1.cell? ⟨w.heap.size,3,none⟩=some (.slice none 0 0):=K1.out.at_ 3 rfl;go_wp2
 go_loopw [38] (fun s wz=>s=.int .i64 0∧wz=w1) (fun _ _=>0)
 case atStart=>exact ⟨rfl,rfl⟩
 case round=>
  obtain ⟨rfl,rfl⟩:=hrel;generalize wr=wq at *;go_wp2
  go_loopw [50] (fun s wz=>s=.int .i64 0∧wz=wq) (fun _ _=>0)
  case atStart=>exact ⟨rfl,rfl⟩
  case round=>
   obtain ⟨rfl,rfl⟩:=hrel;go_wp2
   go_ret
   exact ⟨rfl,HB.out⟩
theorem text_x (W:World):Calls Tryz.prog 138 #[.string ⟨#[88,84,69,78,83,73,79,78]⟩,.string ⟨#[73,77,65,71,69]⟩] W fun e w'=>e=.returned (.agg #[.string ⟨#[88,84,69,78,83,73,79,78]⟩,.int .u8 5,.bool false,.int .i64 0,.int .i64 0,.string ⟨#[73,77,65,71,69]⟩,.string ⟨#[]⟩])∧Below W.heap.size W w':=text_any [88,84,69,78,83,73,79,78] [73,77,65,71,69] W
theorem whole_b (W:World):Calls Tryz.prog 178 #[.string ⟨#[66,73,84,80,73,88]⟩,.int .i64 8] W fun e w'=>e=.returned (.agg #[.string ⟨#[66,73,84,80,73,88]⟩,.int .u8 3,.bool false,.int .i64 8,.int .i64 0,.string ⟨#[]⟩,.string ⟨#[]⟩])∧Below W.heap.size W w':=kwhole_any [66,73,84,80,73,88] 8 W
theorem whole_n (W:World):Calls Tryz.prog 178 #[.string ⟨#[78,65,88,73,83]⟩,.int .i64 0] W fun e w'=>e=.returned (.agg #[.string ⟨#[78,65,88,73,83]⟩,.int .u8 3,.bool false,.int .i64 0,.int .i64 0,.string ⟨#[]⟩,.string ⟨#[]⟩])∧Below W.heap.size W w':=kwhole_any [78,65,88,73,83] 0 W
theorem front8 (w:World):Calls Tryz.prog 137 #[.agg #[.int .i64 8,.slice none 0 0],.bool true] w fun e w'=>∃ g,e=.returned (.slice (some ⟨g,0,none⟩) 3 3)∧w.heap.size≤g∧BlkV w' g 31 #[.string ⟨#[83,73,77,80,76,69]⟩,.int .u8 2,.bool true,.int .i64 0,.int .i64 0,.string ⟨#[]⟩,.string ⟨#[]⟩,.string ⟨#[66,73,84,80,73,88]⟩,.int .u8 3,.bool false,.int .i64 8,.int .i64 0,.string ⟨#[]⟩,.string ⟨#[]⟩,.string ⟨#[78,65,88,73,83]⟩,.int .u8 3,.bool false,.int .i64 0,.int .i64 0,.string ⟨#[]⟩,.string ⟨#[]⟩]∧Below w.heap.size w w':=by
 have C0:=lh text_x;have C3:=lh whole_b;have C7:=lh whole_n;have K0:Hid (BlkV (w.alloc (.cells #[Value.int .i64 8,.slice none 0 0] 129)) w.heap.size 129 #[Value.int .i64 8,.slice none 0 0]):=BlkV.fresh rfl _ _;have B0:Hid (Below w.heap.size w (w.alloc (.cells #[Value.int .i64 8,.slice none 0 0] 129))):=blw1 _ _;go_enter Tryz.func137,Tryz.ntmps137
 go_upto_region 1 with fail
 generalize w.alloc (.cells #[Value.int .i64 8,.slice none 0 0] 129)=w0 at *;go_cut [5] from 8 to 16 (fun s5 wc=>∃ g,s5=.slice (some ⟨g,0,none⟩) 3 3∧w0.heap.size≤g∧BlkV wc g 31 #[.string ⟨#[88,84,69,78,83,73,79,78]⟩,.int .u8 5,.bool false,.int .i64 0,.int .i64 0,.string ⟨#[73,77,65,71,69]⟩,.string ⟨#[]⟩,.string ⟨#[66,73,84,80,73,88]⟩,.int .u8 3,.bool false,.int .i64 8,.int .i64 0,.string ⟨#[]⟩,.string ⟨#[]⟩,.string ⟨#[78,65,88,73,83]⟩,.int .u8 3,.bool false,.int .i64 0,.int .i64 0,.string ⟨#[]⟩,.string ⟨#[]⟩]∧Below w0.heap.size w0 wc)
 case first=>
  have JS:Hid (∀ X,Below w0.heap.size w0 X→X.cell? ⟨w.heap.size,0,none⟩=some (.int .i64 8)∧X.cell? ⟨w.heap.size,1,none⟩=some (.slice none 0 0)):=fun X h=>⟨q0b h (K0.out.at_ 0 rfl),q0b h (K0.out.at_ 1 rfl)⟩;have Y0:Hid (Below w0.heap.size w0 w0.drew):=(Below.refl _ _).drew;refine wp_region_held_drew (S:=fun w'=>w'.cell? ⟨w.heap.size,0,none⟩=some (.int .i64 8)∧w'.cell? ⟨w.heap.size,1,none⟩=some (.slice none 0 0)) (by kernel_rfl) (JS.out _ Y0.out) (fun hHeld=>?_);generalize w0.drew=wd at *;refine wpAnyH_take (i:=1) (v:=.pointer (some ⟨w.heap.size,0,none⟩)) rfl (by kernel_rfl) (by kernel_rfl) (by kernel_rfl) (fun _ _ _ h=>h) (Or.inl ⟨by rfl,by intro w hSw; (try dsimp only at hSw); go_simp⟩) (by assumption) ?_;(try simp only [Act.put,z0q,z1q,z2q,z3q,z4q,z5q]);refine wpAnyH_take (i:=2) (v:=.int .i64 8) rfl (by kernel_rfl) (by kernel_rfl) (by kernel_rfl) (fun _ _ _ h=>h) (Or.inl ⟨by rfl,by intro w hSw; (try dsimp only at hSw); go_simp⟩) (by assumption) ?_;(try simp only [Act.put,z0q,z1q,z2q,z3q,z4q,z5q]);refine wpAnyH_take (i:=4) (v:=.pointer (some ⟨w.heap.size,1,none⟩)) rfl (by kernel_rfl) (by kernel_rfl) (by kernel_rfl) (fun _ _ _ h=>h) (Or.inl ⟨by rfl,by intro w hSw; (try dsimp only at hSw); go_simp⟩) (by assumption) ?_;(try simp only [Act.put,z0q,z1q,z2q,z3q,z4q,z5q]);refine wpAnyH_take (i:=5) (v:=.slice none 0 0) rfl (by kernel_rfl) (by kernel_rfl) (by kernel_rfl) (fun _ _ _ h=>h) (Or.inl ⟨by rfl,by intro w hSw; (try dsimp only at hSw); go_simp⟩) (by assumption) ?_;(try simp only [Act.put,z0q,z1q,z2q,z3q,z4q,z5q]);refine wpAnyH_take (i:=6) (v:=.int .i64 0) rfl (by kernel_rfl) (by kernel_rfl) (by kernel_rfl) (fun _ _ _ h=>h) (Or.inl ⟨by rfl,by intro w hSw; (try dsimp only at hSw); go_simp⟩) (by assumption) ?_;(try simp only [Act.put,z0q,z1q,z2q,z3q,z4q,z5q]);refine wpAnyH_ready (rs:=[0]) (by kernel_rfl) (by simp) ?_;refine AllReadyH.cons rfl (fun K hK=>?_) AllReadyH.nil;go_simp
  (with_reducible refine (C0.out wd).mono ?_);rintro x v1 ⟨rfl,hb⟩;(try dsimp only);have Y1:=lh (q0a Y0.out hb);clear hb;(try go_wp2_with fail);refine hK.out _ _ (JS.out _ Y1.out) (fun hHeld2=>?_);clear hK K hHeld;have hHeld:=hHeld2;clear hHeld2;(try simp only [Act.put,z0q,z1q,z2q,z3q,z4q,z5q]);refine wpAnyH_ready (rs:=[3]) (by kernel_rfl) (by simp) ?_;refine AllReadyH.cons rfl (fun K hK=>?_) AllReadyH.nil;go_simp
  (with_reducible refine (C3.out v1).mono ?_);rintro x v2 ⟨rfl,hb⟩;(try dsimp only);have Y2:=lh (q0a Y1.out hb);clear hb;(try go_wp2_with fail);refine hK.out _ _ (JS.out _ Y2.out) (fun hHeld2=>?_);clear hK K hHeld;have hHeld:=hHeld2;clear hHeld2;(try simp only [Act.put,z0q,z1q,z2q,z3q,z4q,z5q]);refine wpAnyH_ready (rs:=[7]) (by kernel_rfl) (by simp) ?_;refine AllReadyH.cons rfl (fun K hK=>?_) AllReadyH.nil;go_simp
  (with_reducible refine (C7.out v2).mono ?_);rintro x v3 ⟨rfl,hb⟩;(try dsimp only);have Y3:=lh (q0a Y2.out hb);clear hb;(try go_wp2_with fail);refine hK.out _ _ (JS.out _ Y3.out) (fun hHeld2=>?_);clear hK K hHeld;have hHeld:=hHeld2;clear hHeld2;(try simp only [Act.put,z0q,z1q,z2q,z3q,z4q,z5q]);refine wpAnyH_ready (rs:=[8]) (by kernel_rfl) (by simp) ?_;refine AllReadyH.cons rfl (fun K hK=>?_) AllReadyH.nil;go_simp
  have hb:=blw1 v3 (.cells #[.string ⟨#[88,84,69,78,83,73,79,78]⟩,.int .u8 5,.bool false,.int .i64 0,.int .i64 0,.string ⟨#[73,77,65,71,69]⟩,.string ⟨#[]⟩,.string ⟨#[66,73,84,80,73,88]⟩,.int .u8 3,.bool false,.int .i64 8,.int .i64 0,.string ⟨#[]⟩,.string ⟨#[]⟩,.string ⟨#[78,65,88,73,83]⟩,.int .u8 3,.bool false,.int .i64 0,.int .i64 0,.string ⟨#[]⟩,.string ⟨#[]⟩] 31);have NB:Hid (BlkV (v3.alloc (.cells #[.string ⟨#[88,84,69,78,83,73,79,78]⟩,.int .u8 5,.bool false,.int .i64 0,.int .i64 0,.string ⟨#[73,77,65,71,69]⟩,.string ⟨#[]⟩,.string ⟨#[66,73,84,80,73,88]⟩,.int .u8 3,.bool false,.int .i64 8,.int .i64 0,.string ⟨#[]⟩,.string ⟨#[]⟩,.string ⟨#[78,65,88,73,83]⟩,.int .u8 3,.bool false,.int .i64 0,.int .i64 0,.string ⟨#[]⟩,.string ⟨#[]⟩] 31)) v3.heap.size 31 #[.string ⟨#[88,84,69,78,83,73,79,78]⟩,.int .u8 5,.bool false,.int .i64 0,.int .i64 0,.string ⟨#[73,77,65,71,69]⟩,.string ⟨#[]⟩,.string ⟨#[66,73,84,80,73,88]⟩,.int .u8 3,.bool false,.int .i64 8,.int .i64 0,.string ⟨#[]⟩,.string ⟨#[]⟩,.string ⟨#[78,65,88,73,83]⟩,.int .u8 3,.bool false,.int .i64 0,.int .i64 0,.string ⟨#[]⟩,.string ⟨#[]⟩]):=BlkV.fresh rfl _ _;have hge:=Y3.out.size;generalize v3.alloc (.cells #[.string ⟨#[88,84,69,78,83,73,79,78]⟩,.int .u8 5,.bool false,.int .i64 0,.int .i64 0,.string ⟨#[73,77,65,71,69]⟩,.string ⟨#[]⟩,.string ⟨#[66,73,84,80,73,88]⟩,.int .u8 3,.bool false,.int .i64 8,.int .i64 0,.string ⟨#[]⟩,.string ⟨#[]⟩,.string ⟨#[78,65,88,73,83]⟩,.int .u8 3,.bool false,.int .i64 0,.int .i64 0,.string ⟨#[]⟩,.string ⟨#[]⟩] 31)=v4 at *;have Y4:=lh (q0a Y3.out hb);refine hK.out _ _ (JS.out _ Y4.out) (fun hHeld2=>?_);clear hK K hHeld;have hHeld:=hHeld2;clear hHeld2;(try simp only [Act.put,z0q,z1q,z2q,z3q,z4q,z5q]);refine wpAnyH_take (i:=9) (v:=.slice (some ⟨v3.heap.size,0,none⟩) 3 3) rfl (by kernel_rfl) (by kernel_rfl) (by kernel_rfl) (fun _ _ _ h=>h) (Or.inl ⟨by rfl,by intro w hSw; (try dsimp only at hSw); go_simp⟩) (by assumption) ?_;(try simp only [Act.put,z0q,z1q,z2q,z3q,z4q,z5q]);refine wpAnyH_done (by kernel_rfl) ?_ _;clear hHeld;go_wp2_with fail
  go_meet
  exact ⟨v3.heap.size,rfl,hge,NB.out,Y4.out⟩
 case rest=>
  obtain ⟨g,rfl,hge,hbk,hb⟩:=hcut;have KB:=lh hbk;have K1:=lh (K0.out.keep hb);have hge2:=Nat.le_trans B0.out.size hge;replace B0:=lh (q0a B0.out hb);have hlt:=Nat.ne_of_gt (Nat.lt_of_lt_of_le K0.out.lt hge);clear hbk hb K0 C0 C3 C7 hge;obtain ⟨x0,c0⟩:∃ v,wc.cell? ⟨g,0,none⟩=some v:=⟨_,KB.out.at_ 0 rfl⟩;obtain ⟨x1,c1⟩:∃ v,wc.cell? ⟨g,1,none⟩=some v:=⟨_,KB.out.at_ 1 rfl⟩;obtain ⟨x2,c2⟩:∃ v,wc.cell? ⟨g,2,none⟩=some v:=⟨_,KB.out.at_ 2 rfl⟩;obtain ⟨x3,c3⟩:∃ v,wc.cell? ⟨g,3,none⟩=some v:=⟨_,KB.out.at_ 3 rfl⟩;obtain ⟨x4,c4⟩:∃ v,wc.cell? ⟨g,4,none⟩=some v:=⟨_,KB.out.at_ 4 rfl⟩;obtain ⟨x5,c5⟩:∃ v,wc.cell? ⟨g,5,none⟩=some v:=⟨_,KB.out.at_ 5 rfl⟩;obtain ⟨x6,c6⟩:∃ v,wc.cell? ⟨g,6,none⟩=some v:=⟨_,KB.out.at_ 6 rfl⟩;have f0:=KB.out.frozen 0;have f1:=KB.out.frozen 1;have f2:=KB.out.frozen 2;have f3:=KB.out.frozen 3;have f4:=KB.out.frozen 4;have f5:=KB.out.frozen 5;have f6:=KB.out.frozen 6;go_upto_region 3 with fail
  go_cut [] from 18 to 20 (fun wq=>BlkV wq g 31 #[.string ⟨#[83,73,77,80,76,69]⟩,.int .u8 2,.bool true,.int .i64 0,.int .i64 0,.string ⟨#[]⟩,.string ⟨#[]⟩,.string ⟨#[66,73,84,80,73,88]⟩,.int .u8 3,.bool false,.int .i64 8,.int .i64 0,.string ⟨#[]⟩,.string ⟨#[]⟩,.string ⟨#[78,65,88,73,83]⟩,.int .u8 3,.bool false,.int .i64 0,.int .i64 0,.string ⟨#[]⟩,.string ⟨#[]⟩]∧BlkV wq w.heap.size 129 #[Value.int .i64 8,.slice none 0 0]∧Below w.heap.size w wq)
  case first=>
   go_wp2_with fail
   go_meet
   exact ⟨(((((((KB.out.set_ 0 (.string ⟨#[83,73,77,80,76,69]⟩)).set_ 1 (.int .u8 2)).set_ 2 (.bool true)).set_ 3 (.int .i64 0)).set_ 4 (.int .i64 0)).set_ 5 (.string ⟨#[]⟩)).set_ 6 (.string ⟨#[]⟩)),(((((((K1.out.far (p:=⟨g,0,none⟩) hlt.symm (.string ⟨#[83,73,77,80,76,69]⟩)).far (p:=⟨g,1,none⟩) hlt.symm (.int .u8 2)).far (p:=⟨g,2,none⟩) hlt.symm (.bool true)).far (p:=⟨g,3,none⟩) hlt.symm (.int .i64 0)).far (p:=⟨g,4,none⟩) hlt.symm (.int .i64 0)).far (p:=⟨g,5,none⟩) hlt.symm (.string ⟨#[]⟩)).far (p:=⟨g,6,none⟩) hlt.symm (.string ⟨#[]⟩)),(((((((B0.out.setCell (p:=⟨g,0,none⟩) hge2 (.string ⟨#[83,73,77,80,76,69]⟩)).setCell (p:=⟨g,1,none⟩) hge2 (.int .u8 2)).setCell (p:=⟨g,2,none⟩) hge2 (.bool true)).setCell (p:=⟨g,3,none⟩) hge2 (.int .i64 0)).setCell (p:=⟨g,4,none⟩) hge2 (.int .i64 0)).setCell (p:=⟨g,5,none⟩) hge2 (.string ⟨#[]⟩)).setCell (p:=⟨g,6,none⟩) hge2 (.string ⟨#[]⟩))⟩
  case rest=>
   clear c0 f0 c1 f1 c2 f2 c3 f3 c4 f4 c5 f5 c6 f6;obtain ⟨k1,k2,k3⟩:=hcut;generalize wc=wk at *;have e1:=k2.at_ 1 (v:=.slice none 0 0) rfl;replace KB:=lh k1;replace B0:=lh k3;clear k1 k2 k3;go_wp2_with fail
   go_loopw [5,24] (fun s s2 wz=>s=.slice (some ⟨g,0,none⟩) 3 3∧s2=.int .i64 0∧wz=wk) (fun _ _ _=>0)
   case atStart=>exact ⟨rfl,rfl,rfl⟩
   case round=>
    obtain ⟨rfl,rfl,rfl⟩:=hrel;go_wp2
    go_ret
    exact ⟨g,rfl,hge2,KB.out,B0.out⟩
end Go.Proofs.YtcpofeehpijbcaaGreatDoor
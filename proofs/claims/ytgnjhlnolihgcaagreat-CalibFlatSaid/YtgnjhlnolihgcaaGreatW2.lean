import Derived.Test.YtgnjhlnolihgcaaGreatW1
import Derived.Test.YtgnjhlnolihgcaaGreatShelf
set_option maxHeartbeats 1000000
namespace Go.Proofs.YtgnjhlnolihgcaaGreat
open Lib renaming hid → lh
open Go.RowKit
attribute [local go_sem ↓] Go.wp_at_zero Go.wp_at_succ
structure WV where
 neg:Bool
 A:Option Addr
 l:List Nat
 c:Nat
def Wcs (w:World) (b:Nat) (ws:List WV):Prop:=
 ∀ i v,ws[i]? = some v→w.cell? ⟨b,i * 2,none⟩=some (.bool v.neg)∧w.cell? ⟨b,i * 2+1,none⟩=some (.slice v.A v.l.length v.c)∧Sl w v.A v.l v.c
theorem Wcs.below {w w':World} {b:Nat} {ws:List WV} (h:Wcs w b ws) (hb:Below w.heap.size w w'):Wcs w' b ws:=fun i v hv=>
 ⟨q0b hb (h i v hv).1,q0b hb (h i v hv).2.1,(h i v hv).2.2.below hb⟩
def chkW:List WV→Int
 | []=>0
 | v :: t=>if badL v.neg v.l then 8 else chkW t
theorem q0h (b:Nat) (ws:List WV) (hl:ws.length≤1000) (w:World) (h:Wcs w b ws) :
  Calls Tryz.prog 120 #[.slice (some ⟨b,0,none⟩) ws.length ws.length] w fun e w'=>e=.returned (.int .i64 (chkW ws))∧Below w.heap.size w w':=by
 have H:=lh h;clear h;go_enter Tryz.func120,Tryz.ntmps120
 go_wp2
 go_loopw [4,5,8] (fun _ _ i wr=>∃ k:Nat,k≤ws.length∧i=.int .i64 k∧chkW (ws.drop k)=chkW ws∧Below w.heap.size w wr) (fun _ _ i _=>ws.length - (intOf i).toNat)
 case atStart=>exact ⟨0,Nat.zero_le _,rfl,by simp,Below.refl _ _⟩
 case round=>
  obtain ⟨k,hk,rfl,hc,hb⟩:=hrel;by_cases hlt:k < ws.length
  ·obtain ⟨v,hv⟩:∃ v,ws[k]? = some v:=⟨_,List.getElem?_eq_getElem hlt⟩
   have hd:chkW ws=if badL v.neg v.l then 8 else chkW (ws.drop (k+1)):=by
    rw [← hc,← List.getElem_cons_drop hlt];rw [List.getElem?_eq_getElem hlt] at hv;injection hv with hv
    rw [hv]; rfl
   obtain ⟨q0,q1,hs⟩:=(H.out.below hb) k v hv;obtain ⟨neg,A,l,c⟩:=v;dsimp only at q0 q1 hs hd;have Hd:=lh hd;have Hs:=lh hs;clear hd hs hc hv;by_cases h1:4096 < l.length
   ·have hr:chkW ws=8:=(by rw [Hd.out,if_pos (by simp [badL,h1])]);have Hr:=lh hr;clear hr;go_wp2
    go_ret
    exact ⟨by rw [Hr.out]; rfl,hb.alloc hb.size _⟩
   ·by_cases h2:0 < l.length
    ·obtain ⟨b',o,rfl,hx⟩:=(Hs.out.alloc (.cells #[.bool neg,.slice A l.length c] 46)).rd.at_ (k:=l.length - 1) (by omega);have hl0:((l.length:Int) == 0)=false:=(by rw [beq_eq_false_iff_ne]; omega);by_cases hz:l[l.length - 1]?.getD 0=0
     ·have hbz:(((l[l.length - 1]?.getD 0:Nat):Int) == 0)=true:=(by simpa using hz);have hr:chkW ws=8:=(by rw [Hd.out,if_pos (by simp [badL,h2,hz])]);have Hr:=lh hr;clear hr hz;go_wp2
      go_ret
      exact ⟨by rw [Hr.out]; rfl,hb.alloc hb.size _⟩
     ·have hbz:(((l[l.length - 1]?.getD 0:Nat):Int) == 0)=false:=(by rw [beq_eq_false_iff_ne]; omega);have hr:chkW (ws.drop (k+1))=chkW ws:=(by rw [Hd.out,if_neg (by simp [badL,h1,hz]; intro e; subst e; simp at h2)]);have Hr:=lh hr;clear hr hz;go_wp2
      go_roundw
      case rel=>exact ⟨k+1,by omega,by go_num,Hr.out,hb.alloc hb.size _⟩
      case measure=>simp [intOf]; omega
    ·obtain rfl:l=[]:=List.eq_nil_of_length_eq_zero (by omega);cases neg
     ·have hr:chkW (ws.drop (k+1))=chkW ws:=(by rw [Hd.out,if_neg (by simp [badL])]);have Hr:=lh hr;clear hr;go_wp2
      go_roundw
      case rel=>exact ⟨k+1,by omega,by go_num,Hr.out,hb.alloc hb.size _⟩
      case measure=>simp [intOf]; omega
     ·have hr:chkW ws=8:=(by rw [Hd.out,if_pos (by simp [badL])]);have Hr:=lh hr;clear hr;go_wp2
      go_ret
      exact ⟨by rw [Hr.out]; rfl,hb.alloc hb.size _⟩
  ·have hr:chkW ws=0:=(by rw [← hc,show ws.drop k=[] from List.drop_eq_nil_of_le (by omega)]; rfl);have Hr:=lh hr;clear hr hc;go_wp2
   go_ret
   exact ⟨by rw [Hr.out]; rfl,hb⟩
end Go.Proofs.YtgnjhlnolihgcaaGreat
namespace Go.Proofs.YtgnjhlnolihgcaaGreat
open Lib renaming hid → lh
open Go.RowKit
attribute [local go_sem ↓] Go.wp_at_zero Go.wp_at_succ
theorem Wcs.one {w:World} {b:Nat} {neg:Bool} {A:Option Addr} {l:List Nat} {c:Nat} (hs:Sl w A l c) (hb:b=w.heap.size):Wcs (w.alloc (.cells #[.bool neg,.slice A l.length c] 46)) b [⟨neg,A,l,c⟩]:=by
 subst hb;intro i v hv
 match i,hv with
 | 0,hv=>
  simp only [List.getElem?_cons_zero,Option.some.injEq] at hv;subst hv;exact ⟨by simp,by simp,hs.alloc _⟩
theorem chkW_one (v:WV):chkW [v]=chk v.neg v.l:=rfl
theorem neg_any (neg:Bool) (A:Option Addr) (l:List Nat) (c:Nat) (w:World) (hs:Sl w A l c) :
  Calls Tryz.prog 126 #[.agg #[.bool neg,.slice A l.length c]] w (WRes (negS neg l) w):=by
 have Hs:=lh hs; clear hs;cases hbad:badL neg l
 ·have hr:negS neg l=outN (!neg) (val l):=(by simp [negS,hbad]);have hc:=chk_good hbad;rw [hr];clear hr hbad;generalize hout:outN (!neg) (val l)=r;have Hout:=lh hout;clear hout;go_enter Tryz.func126,Tryz.ntmps126
  go_wp2_with fail
  refine (q0h _ [⟨neg,A,l,c⟩] (by simp) _ ?hc).mono ?_
  case hc=>exact Wcs.one ((Hs.out.alloc _).alloc _) (by simp)
  rintro e w1 ⟨rfl,hb⟩;rw [chkW_one];have Q:Hid (Cw w1 w.heap.size neg A l.length c):=⟨q0b hb (by go_simp),q0b hb (by go_simp)⟩;have R:Hid (Cw w1 (w.heap.size+1) false none 0 0):=⟨q0b hb (by go_simp),q0b hb (by go_simp)⟩;have F:Hid (Fw w1 (w.heap.size+1)):=⟨(hb.frozen (by simp)).trans (by go_simp),(hb.frozen (by simp)).trans (by go_simp)⟩;have Hb:=lh (q0a (blw3 _ _ _ _) hb);have Hs1:=lh ((((Hs.out.alloc _).alloc _).alloc _).below hb);clear hb;obtain ⟨q0,q1⟩:=Q.out;go_wp2
  clear q0 q1;go_region_held3 (fun w'=>w'.cell? ⟨w.heap.size,0,none⟩=some (.bool neg)∧w'.cell? ⟨w.heap.size,1,none⟩=some (.slice A l.length c)) (first | exact Q.out | exact Q2 | exact Q3 | exact Cw.setW Q3 (by omega) _ _) (first | (go_at_call 127; refine (clone_any _ _ _ _ Hs1.out.drew).mono ?_; rintro e w2 ⟨A',c',rfl,hown,hb2⟩; have Q2:=Cw.keep Q.out.drew hb2) | (go_at_call 117; refine (q0v _ _ _ _ _ (hown.sl Hs1.out.lim Hs1.out.len)).mono ?_; rw [Hout.out]; rintro e w3 ⟨A2,c2,rfl,hs3,hb3⟩; have Q3:=Cw.keep Q2 hb3; have R3:=Cw.keep (Cw.keep R.out.drew hb2) hb3; obtain ⟨f0,f1⟩:=Fw.keep (Fw.keep F.out.drew R.out.drew hb2) (Cw.keep R.out.drew hb2) hb3; obtain ⟨r0,r1⟩:=R3))
  go_wp2
  exact bodyPost_ret (v:=.tuple #[.agg #[.bool r.1.1,.slice A2 r.1.2.length c2],.int .i64 r.2]) (by simp [results,Tryz.results126,go_sem,r0,r1]) rfl (q0m hs3 ⟨r0,r1⟩ (q0a (q0a Hb.out.drew hb2) hb3) (by omega) _ _)
 ·have hr:negS neg l=((false,[]),8):=(by simp [negS,hbad]);have hc:=chk_bad hbad;rw [hr];clear hr hbad;go_enter Tryz.func126,Tryz.ntmps126
  go_wp2_with fail
  refine (q0h _ [⟨neg,A,l,c⟩] (by simp) _ ?hc).mono ?_
  case hc=>exact Wcs.one ((Hs.out.alloc _).alloc _) (by simp)
  rintro e w1 ⟨rfl,hb⟩;rw [chkW_one];have R:Hid (Cw w1 (w.heap.size+1) false none 0 0):=⟨q0b hb (by go_simp),q0b hb (by go_simp)⟩;have F:Hid (Fw w1 (w.heap.size+1)):=⟨(hb.frozen (by simp)).trans (by go_simp),(hb.frozen (by simp)).trans (by go_simp)⟩;have Hb:=lh (q0a (blw3 _ _ _ _) hb);clear hb;obtain ⟨f0,f1⟩:=F.out;obtain ⟨r0,r1⟩:=R.out;go_wp2
  exact bodyPost_ret (v:=.tuple #[.agg #[.bool false,.slice none 0 0],.int .i64 8]) (by simp [results,Tryz.results126,go_sem,r0,r1]) rfl (q0m (r:=((false,[]),8)) (Sl.nil _ none 0) ⟨r0,r1⟩ Hb.out (by omega) _ _)
end Go.Proofs.YtgnjhlnolihgcaaGreat
namespace Go.Proofs.YtgnjhlnolihgcaaGreat
open Lib renaming hid → lh
open Go.RowKit
attribute [local go_sem ↓] Go.wp_at_zero Go.wp_at_succ
theorem from_out (n:Int) (h1 : -9223372036854775808≤n) (h2:n≤9223372036854775807):outN (decide (n < 0)) (val [n.natAbs % 4294967296,n.natAbs / 4294967296])=(wOf n,0):=by
 have e:val [n.natAbs % 4294967296,n.natAbs / 4294967296]=n.natAbs:=(by simp only [val]; omega);rw [e];exact outZ_fit (Nat.le_trans (limbs_len_le.2 (show n.natAbs < 4294967296 ^ 2 by omega)) (by omega))
theorem from_any (n:Int) (w:World) (h1 : -9223372036854775808≤n) (h2:n≤9223372036854775807) :
  Calls Tryz.prog 64 #[.int .i64 n] w (WRes1 (wOf n) w):=by
 have hout:outN (decide (n < 0)) (val [n.natAbs % 4294967296,n.natAbs / 4294967296])=(wOf n,0):=from_out n h1 h2;have Hout:=lh hout;clear hout;by_cases h0:n < 0
 ·obtain ⟨m,rfl⟩:∃ m:Nat,n = -(m:Int):=⟨n.natAbs,by omega⟩;have e1:IntKind.u64.wrap (-IntKind.u64.wrap (-(m:Int))) % 4294967296=((m % 4294967296:Nat):Int):=(by rw [IntKind.wrap_u64,IntKind.wrap_u64]; omega);have e2:IntKind.u64.wrap (-IntKind.u64.wrap (-(m:Int))) / 4294967296 % 4294967296=((m / 4294967296:Nat):Int):=(by rw [IntKind.wrap_u64,IntKind.wrap_u64]; omega);have E1:=lh e1;have E2:=lh e2;clear e1 e2;rw [Int.natAbs_neg,Int.natAbs_natCast,show decide (-(m:Int) < 0)=true from decide_eq_true h0] at Hout;have Hl:Hid (Lim [m % 4294967296,m / 4294967296]):=lim_cons.2 ⟨by omega,lim_one (by omega)⟩;go_enter Tryz.func64,Tryz.ntmps64
  go_wp2_with fail
  rw [E1.out,E2.out];refine (q0v true _ [m % 4294967296,m / 4294967296] 2 _ ?hs).mono ?_
  case hs=>exact ⟨Rd.two' (by simp) _ _ _,Hl.out,by simp,by simp⟩
  rw [Hout.out];rintro e w1 ⟨A2,c2,rfl,hs3,hb⟩;obtain ⟨r0,r1⟩:Cw w1 w.heap.size false none 0 0:=⟨q0b hb (by go_simp),q0b hb (by go_simp)⟩;obtain ⟨f0,f1⟩:Fw w1 w.heap.size:=⟨(hb.frozen (by simp <;> omega)).trans (by go_simp),(hb.frozen (by simp <;> omega)).trans (by go_simp)⟩;have hz:w.heap.size < w1.heap.size:=(by have:=hb.size; simp at this; omega);have Hb:=lh (q0a (blw2 _ _ _) hb);clear hb;go_wp2
  exact bodyPost_ret (v:=.agg #[.bool (wOf (-(m:Int))).1,.slice A2 (wOf (-(m:Int))).2.length c2]) (by simp [results,Tryz.results64,go_sem,r0,r1,hz]) rfl (wres1_store hs3 ⟨r0,r1⟩ Hb.out (Nat.le_refl _) _ _ _)
 ·obtain ⟨m,rfl⟩:∃ m:Nat,n=(m:Int):=⟨n.natAbs,by omega⟩;have e1:(m:Int) % 4294967296=((m % 4294967296:Nat):Int):=(by omega);have e2:(m:Int) / 4294967296=((m / 4294967296:Nat):Int):=(by omega);have E1:=lh e1;have E2:=lh e2;clear e1 e2;rw [Int.natAbs_natCast,show decide ((m:Int) < 0)=false from decide_eq_false h0] at Hout;have Hl:Hid (Lim [m % 4294967296,m / 4294967296]):=lim_cons.2 ⟨by omega,lim_one (by omega)⟩;go_enter Tryz.func64,Tryz.ntmps64
  go_wp2_with fail
  rw [E1.out,E2.out];refine (q0v false _ [m % 4294967296,m / 4294967296] 2 _ ?hs).mono ?_
  case hs=>exact ⟨Rd.two' (by simp) _ _ _,Hl.out,by simp,by simp⟩
  rw [Hout.out];rintro e w1 ⟨A2,c2,rfl,hs3,hb⟩;obtain ⟨r0,r1⟩:Cw w1 w.heap.size false none 0 0:=⟨q0b hb (by go_simp),q0b hb (by go_simp)⟩;obtain ⟨f0,f1⟩:Fw w1 w.heap.size:=⟨(hb.frozen (by simp <;> omega)).trans (by go_simp),(hb.frozen (by simp <;> omega)).trans (by go_simp)⟩;have hz:w.heap.size < w1.heap.size:=(by have:=hb.size; simp at this; omega);have Hb:=lh (q0a (blw2 _ _ _) hb);clear hb;go_wp2
  exact bodyPost_ret (v:=.agg #[.bool (wOf ((m:Int))).1,.slice A2 (wOf ((m:Int))).2.length c2]) (by simp [results,Tryz.results64,go_sem,r0,r1,hz]) rfl (wres1_store hs3 ⟨r0,r1⟩ Hb.out (Nat.le_refl _) _ _ _)
end Go.Proofs.YtgnjhlnolihgcaaGreat
namespace Go.Proofs.YtgnjhlnolihgcaaGreat
open Lib renaming hid → lh
open Go.RowKit
end Go.Proofs.YtgnjhlnolihgcaaGreat
namespace Go.Proofs.YtgnjhlnolihgcaaGreat
open Lib renaming hid → lh
open Go.RowKit
theorem bitLenN_pos {n:Nat} (h:0 < n):q0s n=q0s (n / 2)+1:=by
 unfold q0s;rw [if_neg (by omega)];by_cases h1:n / 2=0
 ·have:n=1:=(by omega);subst this; rfl
 ·rw [if_neg h1];rw [Nat.log2_def n,if_pos (by omega)]
theorem bitLen_aux:∀ (f x:Nat),x < 2 ^ f→Lib.bitLenAux f x=q0s x
 | 0,x,h=>by
  obtain rfl:x=0:=by omega
  rfl
 | f+1,x,h=>by
  rw [Lib.bitLenAux];by_cases h0:x=0
  ·subst h0; rfl
  ·have e:=bitLenN_pos (n:=x) (by omega);rw [if_neg h0,bitLen_aux f (x / 2) (by rw [Nat.pow_succ] at h; omega),e]; omega
theorem bitLen_eq {x:Nat} (h:x < 4294967296):Lib.bitLen x=q0s x:=bitLen_aux 64 x (by omega)
theorem bitLenN_le {x k:Nat} (h:x < 2 ^ k):q0s x≤k:=by
 unfold q0s;split
 ·omega
 ·next h0=>have:=(Nat.log2_lt h0).2 h; omega
theorem wcheck_any (neg:Bool) (A:Option Addr) (l:List Nat) (c:Nat) (w:World) (hs:Sl w A l c) :
  Calls Tryz.prog 114 #[.agg #[.bool neg,.slice A l.length c]] w fun e w'=>e=.returned (.int .i64 (chk neg l))∧Below w.heap.size w w':=by
 have Hs:=lh hs;clear hs;go_enter Tryz.func114,Tryz.ntmps114
 go_wp2_with fail
 refine (q0h _ [⟨neg,A,l,c⟩] (by simp) _ ?hc).mono ?_
 case hc=>exact Wcs.one (Hs.out.alloc _) (by simp)
 rintro e w1 ⟨rfl,hb⟩;rw [chkW_one];have Hb:=lh (q0a (blw2 _ _ _) hb);clear hb;go_wp2
 go_ret
 exact ⟨rfl,Hb.out⟩
end Go.Proofs.YtgnjhlnolihgcaaGreat
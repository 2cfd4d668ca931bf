import Derived.Test.YtgnjhlnolihgcaaGreatMg1
import Derived.BigQuiet
import Derived.Deep.QuietTactic
import Derived.Test.YtgnjhlnolihgcaaGreatW2
import Derived.Test.YtgnjhlnolihgcaaGreatShelf
set_option maxHeartbeats 1000000
set_option maxRecDepth 100000
namespace Go.Proofs.YtgnjhlnolihgcaaGreat
open Lib renaming hid → lh
open Go.RowKit
attribute [local go_sem ↓] Go.wp_at_zero Go.wp_at_succ
def okF (W H:Int) (l:List Int):Bool:=decide (1≤W) && decide (W≤100) && decide (1≤H) && decide (H≤100) && decide ((l.length:Int)=W * H) && l.all fun x=>decide (-4294967296≤x) && decide (x≤4294967296)
def fchk (W H:Int) (l:List Int):Int:=if okF W H l then 0 else 8
structure FD where
 W:Int
 H:Int
 A:Option Addr
 l:List Int
 c:Nat
def FD.cells (f:FD):List Value:=[.int .i64 f.W,.int .i64 f.H,.slice f.A f.l.length f.c]
def FD.chk (f:FD):Int:=fchk f.W f.H f.l
structure OkD (w:World) (B:Nat) (f:FD):Prop where
 sl:SlI w B f.A f.l f.c
 w1 : -9223372036854775808≤f.W
 w2:f.W≤9223372036854775807
 h1 : -9223372036854775808≤f.H
 h2:f.H≤9223372036854775807
theorem OkD.below {w w':World} {B:Nat} {f:FD} (h:OkD w B f) (hb:Below w.heap.size w w'):OkD w' B f:=⟨h.sl.below hb,h.w1,h.w2,h.h1,h.h2⟩
structure SlD (w:World) (B:Nat) (A:Option Addr) (fs:List FD) (c:Nat):Prop where
 rd:RdV w B A (fs.flatMap FD.cells)
 all:∀ f∈fs,OkD w B f
 le:fs.length≤c
 len:fs.length≤4398046511104
theorem flat3:∀ (fs:List FD) (k j:Nat) (hk:k < fs.length),j < 3→(fs.flatMap FD.cells)[k * 3+j]? = (fs[k]'hk).cells[j]?
 | [],k,j,hk,_=>by simp at hk
 | f :: t,0,j,_,hj=>by
  rw [List.flatMap_cons,Nat.zero_mul,Nat.zero_add,List.getElem?_append_left (by simpa [FD.cells] using hj)]; rfl
 | f :: t,k+1,j,hk,hj=>by
  have h:=flat3 t k j (by simpa using hk) hj;rw [List.flatMap_cons,List.getElem?_append_right (by simp [FD.cells]; omega)];have e:(k+1) * 3+j - f.cells.length=k * 3+j:=(by simp [FD.cells]; omega);rw [e,h]; rfl
theorem SlD.below {w w':World} {B:Nat} {A:Option Addr} {fs:List FD} {c:Nat} (h:SlD w B A fs c) (hb:Below w.heap.size w w'):SlD w' B A fs c:=
 ⟨h.rd.below hb,fun f hf=>(h.all f hf).below hb,h.le,h.len⟩
theorem SlD.at_ {w:World} {B:Nat} {A:Option Addr} {fs:List FD} {c k:Nat} (h:SlD w B A fs c) (hk:k < fs.length) :
  ∃ b o,A=some ⟨b,o,none⟩∧b < B∧w.cell? ⟨b,o+k * 3,none⟩=some (.int .i64 (fs[k]'hk).W)∧w.cell? ⟨b,o+k * 3+1,none⟩=some (.int .i64 (fs[k]'hk).H)∧w.cell? ⟨b,o+k * 3+2,none⟩=some (.slice (fs[k]'hk).A (fs[k]'hk).l.length (fs[k]'hk).c)∧OkD w B (fs[k]'hk):=by
 have hl:0 < (fs.flatMap FD.cells).length:=by
  have h0:=flat3 fs k 0 hk (by omega);rcases Nat.eq_zero_or_pos (fs.flatMap FD.cells).length with e | e
  ·rw [List.eq_nil_of_length_eq_zero e] at h0; simp [FD.cells] at h0
  ·exact e
 obtain ⟨b,o,e,hb,hc⟩:=h.rd hl;refine ⟨b,o,e,hb,hc (k * 3) _ ?_,?_,?_,h.all _ (List.getElem_mem hk)⟩
 ·exact (flat3 fs k 0 hk (by omega)).trans rfl
 ·rw [Nat.add_assoc]; exact hc (k * 3+1) _ ((flat3 fs k 1 hk (by omega)).trans rfl)
 ·rw [Nat.add_assoc]; exact hc (k * 3+2) _ ((flat3 fs k 2 hk (by omega)).trans rfl)
end Go.Proofs.YtgnjhlnolihgcaaGreat
namespace Go.Proofs.YtgnjhlnolihgcaaGreat
open Lib renaming hid → lh
open Go.RowKit
theorem or_mul32 (x0 x1:Nat) (h0:x0 < 4294967296) (h1:x1 < 4294967296):bits .or .u64 (x0:Int) ((x1:Int) * 4294967296)=((x0+x1 * 4294967296:Nat):Int):=by
 rw [u64_or _ _ (by omega) (by omega) (by omega) (by omega)];congr 1
 rw [Int.toNat_natCast,show ((x1:Int) * 4294967296).toNat=2 ^ 32 * x1 by omega,Nat.or_comm,← Nat.two_pow_add_eq_or_of_lt (by omega)];omega
theorem or_zero32 (x0:Nat) (h0:x0 < 4294967296):bits .or .u64 0 (x0:Int)=(x0:Int):=by
 rw [u64_or _ _ (by omega) (by omega) (by omega) (by omega)];simp
theorem int_any (neg:Bool) (A:Option Addr) (l:List Nat) (c:Nat) (w:World) (hs:Sl w A l c) :
  Calls Tryz.prog 103 #[.agg #[.bool neg,.slice A l.length c]] w fun e w'=>e=.returned (.tuple #[.int .i64 (intS neg l).1,.int .i64 (intS neg l).2])∧Below w.heap.size w w':=by
 have Hlim:=lh hs.lim;have Hs:=lh hs;clear hs;cases hbad:badL neg l
 ·have hc:=q1s hbad;have Hgood:=lh (q0j Hlim.out hbad);have Hbad:=lh hbad;clear hbad;have HZ:Hid (zv neg l=if neg then -((val l:Nat):Int) else ((val l:Nat):Int)):=rfl;by_cases h2:2 < l.length
  ·have hr:intS neg l=(0,16):=by
    have h3:=Hgood.out.1.2 (by omega);have h4:pv l l.length=val l:=q0w (Nat.le_refl _);rw [show l.length=(l.length - 1)+1 by omega,q0l] at h4;have h5:4294967296 ^ 2≤4294967296 ^ (l.length - 1):=Nat.pow_le_pow_right (by omega) (by omega);have h6:1 * 4294967296 ^ (l.length - 1)≤l[l.length - 1]?.getD 0 * 4294967296 ^ (l.length - 1):=Nat.mul_le_mul_right _ (by omega);rw [intS,if_neg (by rw [Hbad.out]; simp),if_neg];rw [HZ.out];generalize val l=v at *;cases neg
    ·simp; omega
    ·simp; omega
   rw [hr];clear hr;go_enter Tryz.func103,Tryz.ntmps103
   go_wp2_with fail
   refine (q0e _ [⟨neg,A,l,c⟩] (by simp) _ ?hc).mono ?_
   case hc=>exact Wcs.one (Hs.out.alloc _) (by simp)
   rintro e w1 ⟨rfl,hb⟩;rw [q0u];have q0:w1.cell? ⟨w.heap.size,0,none⟩=some (.bool neg):=q0b hb (by go_simp);have q1:w1.cell? ⟨w.heap.size,1,none⟩=some (.slice A l.length c):=q0b hb (by go_simp);have Hb:=lh (q0a (blw2 _ _ _) hb);clear hb;go_wp2
   go_ret2
   exact ⟨rfl,Hb.out⟩
  ·go_enter Tryz.func103,Tryz.ntmps103
   go_wp2_with fail
   refine (q0e _ [⟨neg,A,l,c⟩] (by simp) _ ?hc).mono ?_
   case hc=>exact Wcs.one (Hs.out.alloc _) (by simp)
   rintro e w1 ⟨rfl,hb⟩;rw [q0u];have q0:w1.cell? ⟨w.heap.size,0,none⟩=some (.bool neg):=q0b hb (by go_simp);have q1:w1.cell? ⟨w.heap.size,1,none⟩=some (.slice A l.length c):=q0b hb (by go_simp);have Hs1:=lh (((Hs.out.alloc _).alloc _).below hb);have Hb:=lh (q0a (blw2 _ _ _) hb);clear hb;go_wp2
   go_loop [5,6,7,21] (fun u _ _ i=>∃ k:Nat,k≤l.length∧i=.int .i64 k∧u=.int .u64 (pv l k:Nat)) (fun _ _ _ i=>l.length - (intOf i).toNat)
   case atStart=>exact ⟨0,Nat.zero_le _,rfl,rfl⟩
   case round=>
    obtain ⟨k,hk,rfl,rfl⟩:=hrel;by_cases hlt:k < l.length
    ·obtain ⟨b,o,rfl,hx⟩:=Hs1.out.rd.at_ (k:=k) hlt;have hx2:=q0n Hlim.out k;rcases (show k=0∨k=1 by omega) with rfl | rfl
     ·rw [Nat.add_zero] at hx;rw [pv_zero];have hp:pv l 1=l[0]?.getD 0:=(by rw [q0l,pv_zero]; simp);generalize l[0]?.getD 0=x0 at *;have Hp:=lh hp;clear hp;go_wp2
      go_round
      case rel=>exact ⟨1,by omega,rfl,by rw [Hp.out]; exact congrArg (Value.int .u64) (or_zero32 x0 hx2)⟩
      case measure=>simp [intOf]; omega
     ·have hp1:pv l 1 < 4294967296:=pv_lt Hlim.out 1;have hp:pv l 2=pv l 1+l[1]?.getD 0 * 4294967296:=(by rw [q0l]);generalize pv l 1=x0 at *;generalize l[1]?.getD 0=x1 at *;have Hp:=lh hp;clear hp;go_wp2
      go_round
      case rel=>exact ⟨2,by omega,rfl,by rw [Hp.out]; exact congrArg (Value.int .u64) (or_mul32 x0 x1 hp1 hx2)⟩
      case measure=>simp [intOf]; omega
    ·have hp:pv l k=val l:=q0w (by omega);rw [hp];have hI:intS neg l=if -9223372036854775808≤zv neg l∧zv neg l≤9223372036854775807 then (zv neg l,0) else (0,16):=(by rw [intS,if_neg (by rw [Hbad.out]; simp)]);rw [HZ.out] at hI;obtain ⟨U,hU⟩:∃ U:Int,U=((val l:Nat):Int):=⟨_,rfl⟩;rw [← hU] at hI ⊢;have HI:=lh hI;have hU0:0≤U:=(by omega);clear hp hU hI;cases neg
     ·by_cases hle:U < 9223372036854775808
      ·have hr:intS false l=(U,0):=(by rw [HI.out]; simp only [Bool.false_eq_true,if_false]; rw [if_pos (by omega)]);have Hr:=lh hr;clear hr;go_wp2
       go_ret2
       exact ⟨by rw [Hr.out]; rfl,Hb.out⟩
      ·have hr:intS false l=(0,16):=(by rw [HI.out]; simp only [Bool.false_eq_true,if_false]; rw [if_neg (by omega)]);have Hr:=lh hr;clear hr;go_wp2
       go_ret2
       exact ⟨by rw [Hr.out]; rfl,Hb.out⟩
     ·by_cases hle:U≤9223372036854775808
      ·have hr:intS true l=(-U,0):=(by rw [HI.out]; simp only [if_true]; rw [if_pos (by omega)]);have Hr:=lh hr;clear hr;have hw:wrap64 (IntKind.u64.wrap (-U)) = -U:=(by unfold wrap64; rw [IntKind.wrap_u64]; omega);have Hw:=lh hw;clear hw;go_wp2
       go_ret2
       exact ⟨by rw [Hr.out]; exact congrArg (fun z=>Ending.returned (.tuple #[.int .i64 z,.int .i64 0])) Hw.out,Hb.out⟩
      ·have hr:intS true l=(0,16):=(by rw [HI.out]; simp only [if_true]; rw [if_neg (by omega)]);have Hr:=lh hr;clear hr;go_wp2
       go_ret2
       exact ⟨by rw [Hr.out]; rfl,Hb.out⟩
 ·have hr:intS neg l=(0,8):=(by rw [intS,if_pos hbad]);have hc:=chk_bad hbad;rw [hr];clear hr hbad;go_enter Tryz.func103,Tryz.ntmps103
  go_wp2_with fail
  refine (q0e _ [⟨neg,A,l,c⟩] (by simp) _ ?hc).mono ?_
  case hc=>exact Wcs.one (Hs.out.alloc _) (by simp)
  rintro e w1 ⟨rfl,hb⟩;rw [q0u];have Hb:=lh (q0a (blw2 _ _ _) hb);clear hb;go_wp2
  go_ret2
  exact ⟨rfl,Hb.out⟩
end Go.Proofs.YtgnjhlnolihgcaaGreat
import Derived.Test.YtgnjhlnolihgcaaGreatCal1
import Derived.BigQuiet
import Derived.Deep.QuietTactic
set_option maxHeartbeats 2000000
set_option maxRecDepth 100000
namespace Go.Proofs.YtgnjhlnolihgcaaGreat
open Lib renaming hid → lh
open Go.RowKit
attribute [local go_sem ↓] Go.wp_at_zero Go.wp_at_succ
structure FD where
 W:Int
 H:Int
 A:Option Addr
 l:List Int
 c:Nat
def FD.cells (f:FD):List Value:=[.int .i64 f.W,.int .i64 f.H,.slice f.A f.l.length f.c]
def FD.chk (f:FD):Int:=fchk f.W f.H f.l
structure OkD (w:World) (B:Nat) (f:FD):Prop where
 sl:SlI w B f.A f.l f.c
 w1 : -9223372036854775808≤f.W
 w2:f.W≤9223372036854775807
 h1 : -9223372036854775808≤f.H
 h2:f.H≤9223372036854775807
theorem OkD.below {w w':World} {B:Nat} {f:FD} (h:OkD w B f) (hb:Below w.heap.size w w'):OkD w' B f:=⟨h.sl.below hb,h.w1,h.w2,h.h1,h.h2⟩
structure SlD (w:World) (B:Nat) (A:Option Addr) (fs:List FD) (c:Nat):Prop where
 rd:RdV w B A (fs.flatMap FD.cells)
 all:∀ f∈fs,OkD w B f
 le:fs.length≤c
 len:fs.length≤4398046511104
theorem flat3:∀ (fs:List FD) (k j:Nat) (hk:k < fs.length),j < 3→(fs.flatMap FD.cells)[k * 3+j]? = (fs[k]'hk).cells[j]?
 | [],k,j,hk,_=>by simp at hk
 | f :: t,0,j,_,hj=>by
  rw [List.flatMap_cons,Nat.zero_mul,Nat.zero_add,List.getElem?_append_left (by simpa [FD.cells] using hj)]; rfl
 | f :: t,k+1,j,hk,hj=>by
  have h:=flat3 t k j (by simpa using hk) hj;rw [List.flatMap_cons,List.getElem?_append_right (by simp [FD.cells]; omega)];have e:(k+1) * 3+j - f.cells.length=k * 3+j:=(by simp [FD.cells]; omega);rw [e,h]; rfl
theorem SlD.below {w w':World} {B:Nat} {A:Option Addr} {fs:List FD} {c:Nat} (h:SlD w B A fs c) (hb:Below w.heap.size w w'):SlD w' B A fs c:=
 ⟨h.rd.below hb,fun f hf=>(h.all f hf).below hb,h.le,h.len⟩
theorem SlD.at_ {w:World} {B:Nat} {A:Option Addr} {fs:List FD} {c k:Nat} (h:SlD w B A fs c) (hk:k < fs.length) :
  ∃ b o,A=some ⟨b,o,none⟩∧b < B∧w.cell? ⟨b,o+k * 3,none⟩=some (.int .i64 (fs[k]'hk).W)∧w.cell? ⟨b,o+k * 3+1,none⟩=some (.int .i64 (fs[k]'hk).H)∧w.cell? ⟨b,o+k * 3+2,none⟩=some (.slice (fs[k]'hk).A (fs[k]'hk).l.length (fs[k]'hk).c)∧OkD w B (fs[k]'hk):=by
 have hl:0 < (fs.flatMap FD.cells).length:=by
  have h0:=flat3 fs k 0 hk (by omega);rcases Nat.eq_zero_or_pos (fs.flatMap FD.cells).length with e | e
  ·rw [List.eq_nil_of_length_eq_zero e] at h0; simp [FD.cells] at h0
  ·exact e
 obtain ⟨b,o,e,hb,hc⟩:=h.rd hl;refine ⟨b,o,e,hb,hc (k * 3) _ ?_,?_,?_,h.all _ (List.getElem_mem hk)⟩
 ·exact (flat3 fs k 0 hk (by omega)).trans rfl
 ·rw [Nat.add_assoc]; exact hc (k * 3+1) _ ((flat3 fs k 1 hk (by omega)).trans rfl)
 ·rw [Nat.add_assoc]; exact hc (k * 3+2) _ ((flat3 fs k 2 hk (by omega)).trans rfl)
def vchk:List FD→Int
 | []=>0
 | f :: t=>if f.chk=0 then vchk t else 8
theorem fchk_cases (W H:Int) (l:List Int):fchk W H l=0∨fchk W H l=8:=by unfold fchk; split <;> simp
theorem vchk_good {fs:List FD} (h:∀ f∈fs,f.chk=0):vchk fs=0:=by
 induction fs with
 | nil=>rfl
 | cons f t ih=>unfold vchk; rw [if_pos (h f (by simp))]; exact ih (fun g hg=>h g (by simp [hg]))
theorem vchk_bad {fs:List FD} {f:FD} (hf:f∈fs) (h:f.chk≠0):vchk fs=8:=by
 induction fs with
 | nil=>cases hf
 | cons g t ih=>
  unfold vchk;split
  ·rename_i hg
   rcases List.mem_cons.1 hf with rfl | h1
   ·exact absurd hg h
   ·exact ih h1
  ·rfl
theorem take_mem_snoc {fs:List FD} {k:Nat} (hk:k < fs.length) {P:FD→Prop} (h:∀ f∈fs.take k,P f) (h2:P (fs[k]'hk)):∀ f∈fs.take (k+1),P f:=by
 rw [← List.take_append_getElem hk];intro f hf;rcases List.mem_append.1 hf with hf | hf
 ·exact h f hf
 ·rw [List.mem_singleton] at hf; subst hf; exact h2
theorem valid_any (A:Option Addr) (fs:List FD) (c B:Nat) (w:World) (hs:SlD w B A fs c) :
  Calls Tryz.prog 46 #[.slice A fs.length c] w fun e w'=>e=.returned (.int .i64 (vchk fs))∧Below w.heap.size w w':=by
 have hm:=hs.len;have S:=lh hs;clear hs;go_enter Tryz.func46,Tryz.ntmps46
 go_wp2
 go_loopw [8] (fun s8 wr=>∃ k:Nat,k≤fs.length∧s8=.int .i64 k∧(∀ f∈fs.take k,f.chk=0)∧Below w.heap.size w wr) (fun v _=>fs.length - (intOf v).toNat)
 case atStart=>exact ⟨0,Nat.zero_le _,rfl,by simp,Below.refl _ _⟩
 case round=>
  obtain ⟨k,hk,rfl,hall,hbw⟩:=hrel;have ALL:=lh hall;have HB:=lh hbw;clear hall hbw;by_cases hlt:k < fs.length
  ·have S2:=lh (S.out.below HB.out);obtain ⟨b,o,rfl,-,q0,q1,q2,hok⟩:=S2.out.at_ hlt;have OK:=lh hok;have hst:Hid (fs[k]'hlt∈fs):=List.getElem_mem hlt;have HG:Hid ((fs[k]'hlt).chk=0→∀ f∈fs.take (k+1),f.chk=0):=fun h=>take_mem_snoc hlt ALL.out h;clear hok;generalize fs[k]'hlt=f at *;rcases fchk_cases f.W f.H f.l with h0 | h8
   ·have E:=lh h0;clear h0;go_wp2_with fail
    refine (ccheck_any f.W f.H f.A f.l f.c B _ (OK.out.sl.alloc _)).mono ?_;rw [E.out];rintro e w1 ⟨rfl,hb⟩;have HB2:=lh (q0a (q0a HB.out (blw1 _ _)) hb);clear hb q0 q1 q2;go_wp2
    go_roundw
    case rel=>exact ⟨k+1,by omega,by go_num,HG.out E.out,HB2.out⟩
    case measure=>simp [intOf]; omega
   ·have E:=lh h8;clear h8;go_wp2_with fail
    refine (ccheck_any f.W f.H f.A f.l f.c B _ (OK.out.sl.alloc _)).mono ?_;rw [E.out];rintro e w1 ⟨rfl,hb⟩;have HB2:=lh (q0a (q0a HB.out (blw1 _ _)) hb);clear hb q0 q1 q2;go_wp2
    go_ret
    exact ⟨q0u (vchk_bad hst.out (by unfold FD.chk; rw [E.out]; omega)).symm,HB2.out⟩
  ·obtain rfl:k=fs.length:=by omega
   have E:Hid (vchk fs=0):=vchk_good (by have:=ALL.out; rwa [List.take_length] at this);go_wp2
   go_ret
   exact ⟨q0u E.out.symm,HB.out⟩
def neqF (W0 H0:Int) (f:FD):Bool:=decide (f.W≠W0) || decide (f.H≠H0)
def alikeB (f0:FD) (fs:List FD):Bool:=fs.all fun f=>decide (f.W=f0.W) && decide (f.H=f0.H)
def IdxPost (b:Bool) (w:World) (e:Ending) (w':World):Prop:=∃ z:Int,e=.returned (.int .i64 z)∧decide (0≤z)=b ∧ -1≤z∧z≤4398046511104∧Below w.heap.size w w'
theorem any_alike (f0:FD) (fs:List FD):(!(fs.any (neqF f0.W f0.H)))=alikeB f0 fs:=by
 unfold alikeB
 induction fs with
 | nil=>rfl
 | cons f t ih=>
  rw [List.any_cons,List.all_cons,Bool.not_or,ih];congr 1
  unfold neqF;by_cases h1:f.W=f0.W <;> by_cases h2:f.H=f0.H <;> simp [h1,h2]
theorem any_false {fs:List FD} {P:FD→Bool} (h:∀ f∈fs,P f=false):fs.any P=false:=by
 rw [List.any_eq_false]; intro f hf; rw [h f hf]; simp
theorem alike1_any (f f0:FD) (g b o n c:Nat) (hn:0 < n) (w:World) (h0:w.cell? ⟨g,0,none⟩=some (.slice (some ⟨b,o,none⟩) n c)) (h1:w.cell? ⟨b,o,none⟩=some (.int .i64 f0.W)) (h2:w.cell? ⟨b,o+1,none⟩=some (.int .i64 f0.H)) :
  Calls Tryz.prog 99 #[.agg #[.int .i64 f.W,.int .i64 f.H,.slice f.A f.l.length f.c],.pointer (some ⟨g,0,none⟩)] w fun e w'=>e=.returned (.bool (neqF f0.W f0.H f))∧Below w.heap.size w w':=by
 have hzg:g < w.heap.size:=lt_of_cell (a:=⟨g,0,none⟩) h0;have hzb:b < w.heap.size:=lt_of_cell (a:=⟨b,o,none⟩) h1;have n0:∀ (W0 H0:Int),Hid (neqF W0 H0 f=(decide (f.W≠W0) || decide (f.H≠H0))):=fun _ _=>rfl;have N0:=n0 f0.W f0.H;clear n0;generalize f0.W=W0 at *;generalize f0.H=H0 at *;by_cases hW:f.W=W0
 ·have t1:(f.W != W0)=false:=(by simp [hW]);by_cases hH:f.H=H0
  ·have t2:(f.H != H0)=false:=(by simp [hH]);have E:Hid (neqF W0 H0 f=false):=(by rw [Hid,N0.out]; simp [hW,hH]);clear hW hH N0;go_enter Tryz.func99,Tryz.ntmps99
   go_wp2_with fail
   go_quiet (fail)
   go_wp2
   go_ret
   exact ⟨by rw [E.out]; rfl,below_drewN (blw1 _ _) _⟩
  ·have t2:(f.H != H0)=true:=(by simp [hH]);have E:Hid (neqF W0 H0 f=true):=(by rw [Hid,N0.out]; simp [hW,hH]);clear hW hH N0;go_enter Tryz.func99,Tryz.ntmps99
   go_wp2_with fail
   go_quiet (fail)
   go_wp2
   go_ret
   exact ⟨by rw [E.out]; rfl,below_drewN (blw1 _ _) _⟩
 ·have t1:(f.W != W0)=true:=(by simp [hW]);have E:Hid (neqF W0 H0 f=true):=(by rw [Hid,N0.out]; simp [hW]);clear hW N0;go_enter Tryz.func99,Tryz.ntmps99
  go_wp2_with fail
  go_quiet (fail)
  go_wp2
  go_ret
  exact ⟨by rw [E.out]; rfl,below_drewN (blw1 _ _) _⟩
theorem index_any (A:Option Addr) (fs:List FD) (f0:FD) (c B g b o n c0:Nat) (hn:0 < n) (w:World) (hs:SlD w B A fs c) (h0:w.cell? ⟨g,0,none⟩=some (.slice (some ⟨b,o,none⟩) n c0)) (h1:w.cell? ⟨b,o,none⟩=some (.int .i64 f0.W)) (h2:w.cell? ⟨b,o+1,none⟩=some (.int .i64 f0.H)) :
  Calls Tryz.prog 141 #[.slice A fs.length c,.func (.func 99) #[] #[.pointer (some ⟨g,0,none⟩)]] w (IdxPost (fs.any (neqF f0.W f0.H)) w):=by
 have hm:=hs.len;have S:=lh hs;have C0:=lh h0;have C1:=lh h1;have C2:=lh h2;clear hs h0 h1 h2;go_enter Tryz.func141,Tryz.ntmps141
 go_wp2
 go_loopw [8] (fun s8 wr=>∃ k:Nat,k≤fs.length∧s8=.int .i64 k∧(∀ f∈fs.take k,neqF f0.W f0.H f=false)∧Below w.heap.size w wr) (fun v _=>fs.length - (intOf v).toNat)
 case atStart=>exact ⟨0,Nat.zero_le _,rfl,by simp,Below.refl _ _⟩
 case round=>
  obtain ⟨k,hk,rfl,hall,hbw⟩:=hrel;have ALL:=lh hall;have HB:=lh hbw;clear hall hbw;by_cases hlt:k < fs.length
  ·have S2:=lh (S.out.below HB.out);obtain ⟨b',o',rfl,-,q0,q1,q2,-⟩:=S2.out.at_ hlt;have hst:Hid (fs[k]'hlt∈fs):=List.getElem_mem hlt;have HG:Hid (neqF f0.W f0.H (fs[k]'hlt)=false→∀ f∈fs.take (k+1),neqF f0.W f0.H f=false):=fun h=>take_mem_snoc hlt ALL.out h;generalize fs[k]'hlt=f at *
   cases hq:neqF f0.W f0.H f with
   | true=>
    have E:=lh hq;clear hq;go_wp2_with fail
    refine (alike1_any f f0 g b o n c0 hn _ (q0b HB.out C0.out) (q0b HB.out C1.out) (q0b HB.out C2.out)).mono ?_;rw [E.out];rintro e w1 ⟨rfl,hb⟩;have HB2:=lh (q0a HB.out hb);clear hb q0 q1 q2;go_wp2
    go_ret
    exact ⟨k,rfl,by rw [decide_eq_true (by omega)]; exact (List.any_eq_true.2 ⟨f,hst.out,E.out⟩).symm,by omega,by omega,HB2.out⟩
   | false=>
    have E:=lh hq;clear hq;go_wp2_with fail
    refine (alike1_any f f0 g b o n c0 hn _ (q0b HB.out C0.out) (q0b HB.out C1.out) (q0b HB.out C2.out)).mono ?_;rw [E.out];rintro e w1 ⟨rfl,hb⟩;have HB2:=lh (q0a HB.out hb);clear hb q0 q1 q2;go_wp2
    go_roundw
    case rel=>exact ⟨k+1,by omega,by go_num,HG.out E.out,HB2.out⟩
    case measure=>simp [intOf]; omega
  ·obtain rfl:k=fs.length:=by omega
   have E:Hid (fs.any (neqF f0.W f0.H)=false):=any_false (by have:=ALL.out; rwa [List.take_length] at this);go_wp2
   go_ret
   exact ⟨-1,rfl,by rw [E.out]; rfl,by omega,by omega,HB.out⟩
theorem contains_any (A:Option Addr) (fs:List FD) (f0:FD) (c B g b o n c0:Nat) (hn:0 < n) (w:World) (hs:SlD w B A fs c) (h0:w.cell? ⟨g,0,none⟩=some (.slice (some ⟨b,o,none⟩) n c0)) (h1:w.cell? ⟨b,o,none⟩=some (.int .i64 f0.W)) (h2:w.cell? ⟨b,o+1,none⟩=some (.int .i64 f0.H)) :
  Calls Tryz.prog 98 #[.slice A fs.length c,.func (.func 99) #[] #[.pointer (some ⟨g,0,none⟩)]] w fun e w'=>e=.returned (.bool (fs.any (neqF f0.W f0.H)))∧Below w.heap.size w w':=by
 have hI:Hid (Calls Tryz.prog 141 #[.slice A fs.length c,.func (.func 99) #[] #[.pointer (some ⟨g,0,none⟩)]] w (IdxPost (fs.any (neqF f0.W f0.H)) w)):=index_any A fs f0 c B g b o n c0 hn w hs h0 h1 h2;clear hs h0 h1 h2;go_enter Tryz.func98,Tryz.ntmps98
 go_wp2_with fail
 refine hI.out.mono ?_;rintro e w1 ⟨z,rfl,hz,hz1,hz2,hb⟩;have HZ:=lh hz;have HB:=lh hb;clear hz hb;by_cases h0:0≤z
 ·have t1:decide (0≤z)=true:=decide_eq_true h0;have E:Hid (fs.any (neqF f0.W f0.H)=true):=(by rw [Hid,← HZ.out]; exact t1);go_wp2
  go_ret
  exact ⟨by rw [E.out]; rfl,HB.out⟩
 ·have t1:decide (0≤z)=false:=decide_eq_false h0;have E:Hid (fs.any (neqF f0.W f0.H)=false):=(by rw [Hid,← HZ.out]; exact t1);go_wp2
  go_ret
  exact ⟨by rw [E.out]; rfl,HB.out⟩
theorem alike_any (A:Option Addr) (f0:FD) (t:List FD) (c B:Nat) (w:World) (hs:SlD w B A (f0 :: t) c) :
  Calls Tryz.prog 47 #[.slice A (f0 :: t).length c] w fun e w'=>e=.returned (.bool (alikeB f0 (f0 :: t)))∧Below w.heap.size w w':=by
 obtain ⟨b,o,rfl,-,q0,q1,-,-⟩:=hs.at_ (k:=0) (by simp);rw [Nat.zero_mul,Nat.add_zero] at q0 q1;have S:Hid (SlD (w.alloc (.cells #[.slice (some ⟨b,o,none⟩) (f0 :: t).length c] 43)) B (some ⟨b,o,none⟩) (f0 :: t) c):=hs.below (blw1 _ _);have C0:Hid ((w.alloc (.cells #[.slice (some ⟨b,o,none⟩) (f0 :: t).length c] 43)).cell? ⟨b,o,none⟩=some (.int .i64 f0.W)):=q0b (blw1 _ _) q0;have C1:Hid ((w.alloc (.cells #[.slice (some ⟨b,o,none⟩) (f0 :: t).length c] 43)).cell? ⟨b,o+1,none⟩=some (.int .i64 f0.H)):=q0b (blw1 _ _) q1;have hlen:0 < (f0 :: t).length:=(by simp);have E:=lh (any_alike f0 (f0 :: t));clear hs q0 q1;generalize hfs:f0 :: t=fs at *;have HF:=lh hfs;clear hfs;go_enter Tryz.func47,Tryz.ntmps47
 go_wp2_with fail
 refine (contains_any _ fs f0 c B w.heap.size b o fs.length c hlen _ S.out (by simp) C0.out C1.out).mono ?_;rintro e w1 ⟨rfl,hb⟩;have HB:=lh (q0a (blw1 _ _) hb);clear hb;go_wp2
 go_ret
 exact ⟨by rw [← E.out]; rfl,HB.out⟩
end Go.Proofs.YtgnjhlnolihgcaaGreat
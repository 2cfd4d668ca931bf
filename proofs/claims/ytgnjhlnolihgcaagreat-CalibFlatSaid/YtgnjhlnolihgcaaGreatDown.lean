import Derived.Test.YtgnjhlnolihgcaaGreatRows
import Derived.Test.YtgnjhlnolihgcaaGreatMem
import Derived.RangeFuncNested
import Derived.RangeFuncBound
import Derived.RangeFuncCalls
import Derived.RangeFuncLeaves
import Derived.RangeFuncWrites
import Derived.Shelf.Abstract
import Derived.Shelf.RegionOpen
import Derived.WalkKit
import Derived.OwnWalkIn
import Derived.TacticsInMore
import Derived.LoopNIn
import Derived.LoopIn
import Derived.Deep.RegionHeld3
set_option maxHeartbeats 2000000
set_option maxRecDepth 100000
namespace Go.Proofs.YtgnjhlnolihgcaaGreat
open Lib renaming hid → lh
open Go.RowKit Go.Shelf
attribute [local go_sem] Oper.semAt_some
def downA (n:Nat):(m:Nat)→m≤n→List { i:Nat // i < n }
 | 0,_=>[]
 | m+1,h=>⟨m,by omega⟩ :: downA n m (by omega)
def q1k (n:Nat):List { i:Nat // i < n }:=downA n n (Nat.le_refl n)
theorem downA_length (n:Nat):∀ (m:Nat) (h:m≤n),(downA n m h).length=m
 | 0,_=>rfl
 | m+1,h=>by rw [downA,List.length_cons,downA_length n m (by omega)]
def encD (l:List Nat) (x:{ i:Nat // i < l.length }):Array Value:=#[.int .i64 (x.1:Int),.int .u32 (l[x.1]?.getD 0:Nat)]
theorem down1_in (F:Fence) (n:Nat) (hf:F.fn 227) (hro:F.round=none) (hn:1≤n) (Bs c:Nat) (A:Option Addr) (l:List Nat) (w:World) (hlen:l.length≤35184372088832)
  (Kp:World→World→Prop) (Inv:World→Prop) (hI0:∀ W,Below w.heap.size w W→Inv W) (hIK:∀ W W',Inv W→Kp W W'→Inv W')
  (hIr:∀ W,Inv W→W.cell? ⟨Bs,0,none⟩=some (.slice A l.length c)∧Sl W A l c) :
  SeqStopsK F n Tryz.prog 227 #[.pointer (some ⟨Bs,0,none⟩)] (encD l) Kp (fun ys=>ys=q1k l.length) (fun pre=>∃ rest,pre ++ rest=q1k l.length) l.length w:=fun lp J Jx W hW _ _ hY h0=>by
 have hc1:=(hIr W (hI0 W hW)).1;refine callsIn_of_wp Tryz.func227 rfl hf ?_ hro;simp only [Tryz.ntmps227,List.size_toArray,List.length_cons,List.length_nil,Nat.reduceAdd,Nat.reduceSub,Array.replicate_succ,Array.replicate_zero,List.push_toArray,List.append_toArray,List.nil_append,List.cons_append];gi_wp2
 gi_loopw [3] (fun i wr=>∃ (m:Nat) (hm:m≤l.length) (pre:List { i:Nat // i < l.length }),i=.int .i64 ((m:Int) - 1)∧pre ++ downA l.length m hm=q1k l.length∧J pre wr∧Inv wr)
  (fun i _=>(intOf i+1).toNat)
 case atStart=>exact ⟨l.length,Nat.le_refl _,[],rfl,rfl,h0,hI0 W hW⟩
 case round=>
  obtain ⟨m,hm,pre,rfl,hp,hJ,hb⟩:=hrel;obtain ⟨hc2,hs2⟩:=hIr wr hb;have Hs2:=lh hs2;clear hs2
  cases m with
  | zero=>
   have hp2:pre=q1k l.length:=(by simpa [downA] using hp);have Hp:=lh hp2;clear hp hp2;gi_wp2
   go_end0
   exact ⟨⟨_,rfl⟩,.inl ⟨pre,Hp.out,hJ⟩⟩
  | succ m=>
   have hpl:pre.length < l.length:=by
    have:=congrArg List.length hp;rw [List.length_append,downA_length,q1k,downA_length] at this;omega
   have hp2:(pre ++ [⟨m,by omega⟩]) ++ downA l.length m (by omega)=q1k l.length:=by
    rw [List.append_assoc]; exact hp
   obtain ⟨b,o,rfl,hx⟩:=Hs2.out.rd.at_ (k:=m) (by omega);obtain ⟨fn,tmps,assign,body,hy,hR⟩:=hY pre ⟨m,by omega⟩ wr hJ hpl;have Hp:=lh hp2;clear hp hp2;dsimp only [encD] at hy hR;gi_wp2
   refine hR.mono ?_;rintro e W3 (⟨rfl,hJ3,hk3⟩ | ⟨rfl,hJx3⟩)
   ·gi_wp2
    go_roundw
    case rel=>exact ⟨m,by omega,_,by go_num,Hp.out,hJ3,hIK _ _ hb hk3⟩
    case measure=>simp [intOf]
   ·gi_wp2
    refine bodyPost_ret (results_none rfl _ _ _) rfl ?_;exact ⟨⟨_,rfl⟩,.inr ⟨_,⟨_,Hp.out⟩,hJx3⟩⟩
theorem down1_below (F:Fence) (n:Nat) (hf:F.fn 227) (hro:F.round=none) (hn:1≤n) (Bs c:Nat) (A:Option Addr) (l:List Nat) (w:World) (hs:Sl w A l c)
  (hBs:w.cell? ⟨Bs,0,none⟩=some (.slice A l.length c)) :
  SeqStopsK F n Tryz.prog 227 #[.pointer (some ⟨Bs,0,none⟩)] (encD l) (Below w.heap.size) (fun ys=>ys=q1k l.length) (fun pre=>∃ rest,pre ++ rest=q1k l.length) l.length w:=
 down1_in F n hf hro hn Bs c A l w hs.len _ (Below w.heap.size w) (fun _ h=>h) (fun _ _ h k=>h.trans k) (fun _ h=>⟨q0b h hBs,hs.below h⟩)
theorem down_in (F:Fence) (n:Nat) (hf:F.fn 191) (hro:F.round=none) (a:Option Addr) (len cap:Nat) (w:World) :
  CallsIn F n Tryz.prog 191 #[.slice a len cap] w fun e w'=>e=.returned (.func (.func 227) #[] #[.pointer (some ⟨w.heap.size,0,none⟩)])∧w'=w.alloc (.cells #[.slice a len cap] 44):=by
 refine callsIn_of_wp Tryz.func191 rfl hf ?_ hro;simp only [Tryz.ntmps191,List.size_toArray,List.length_cons,List.length_nil,Nat.reduceAdd,Nat.reduceSub,Array.replicate_succ,Array.replicate_zero,List.push_toArray,List.append_toArray,List.nil_append,List.cons_append];gi_wp2
 go_ret
 exact ⟨rfl,rfl⟩
end Go.Proofs.YtgnjhlnolihgcaaGreat
namespace Go.Proofs.YtgnjhlnolihgcaaGreat
open Lib renaming hid → lh
open Go.RowKit
theorem downA_get (n:Nat):∀ (m:Nat) (h:m≤n) (i:Nat) (x:{ i:Nat // i < n }),(downA n m h)[i]? = some x→x.1+1+i=m
 | 0,_,i,x,e=>by simp [downA] at e
 | m+1,h,0,x,e=>by
  simp only [downA,List.getElem?_cons_zero,Option.some.injEq] at e;subst e; rfl
 | m+1,h,i+1,x,e=>by
  simp only [downA,List.getElem?_cons_succ] at e;have:=downA_get n m (by omega) i x e;omega
theorem down_next {n:Nat} {pre:List { i:Nat // i < n }} {x:{ i:Nat // i < n }} (h:∃ rest,(pre ++ [x]) ++ rest=q1k n):(∃ rest,pre ++ rest=q1k n)∧x.1+1+pre.length=n:=by
 obtain ⟨rest,e⟩:=h;refine ⟨⟨x :: rest,by rw [← e]; simp⟩,?_⟩;refine downA_get n n (Nat.le_refl _) pre.length x ?_;rw [show downA n n (Nat.le_refl _)=q1k n from rfl,← e];simp
theorem downAll_len (n:Nat):(q1k n).length=n:=downA_length n n (Nat.le_refl _)
structure KpB (B g1 g2:Nat) (W W':World):Prop where
 size:W.heap.size≤W'.heap.size
 block:∀ k,k < B→k≠g1→k≠g2→W'.heap[k]? = W.heap[k]?
theorem KpB.refl (B g1 g2:Nat) (W:World):KpB B g1 g2 W W:=⟨Nat.le_refl _,fun _ _ _ _=>rfl⟩
theorem KpB.trans {B g1 g2:Nat} {X Y Z:World} (h:KpB B g1 g2 X Y) (k:KpB B g1 g2 Y Z):KpB B g1 g2 X Z:=⟨Nat.le_trans h.size k.size,fun i hi h1 h2=>(k.block i hi h1 h2).trans (h.block i hi h1 h2)⟩
theorem KpB.putObj {B g1 g2:Nat} (W:World) (l:Nat) (o':Obj) (hl:B≤l):KpB B g1 g2 W (W.putObj l o'):=
 ⟨(grownBy_putObj' W l o').size,fun k hk _ _=>World.putObj_heap_other (by omega)⟩
theorem KpB.of {B g1 g2:Nat} {W W':World} (h:Below B W W'):KpB B g1 g2 W W':=⟨h.size,fun k hk _ _=>h.block k hk⟩
theorem KpB.set1 {B g1 g2:Nat} {X W:World} (h:KpB B g1 g2 X W) (i:Nat) (v:Value):KpB B g1 g2 X (W.setCell ⟨g1,i,none⟩ v):=
 ⟨by simpa [World.setCell] using h.size,fun k hk h1 h2=>(Below.heap_setCell W ⟨g1,i,none⟩ v k h1).trans (h.block k hk h1 h2)⟩
theorem KpB.set2 {B g1 g2:Nat} {X W:World} (h:KpB B g1 g2 X W) (i:Nat) (v:Value):KpB B g1 g2 X (W.setCell ⟨g2,i,none⟩ v):=
 ⟨by simpa [World.setCell] using h.size,fun k hk h1 h2=>(Below.heap_setCell W ⟨g2,i,none⟩ v k h2).trans (h.block k hk h1 h2)⟩
theorem KpB.drew {B g1 g2:Nat} {X W:World} (h:KpB B g1 g2 X W):KpB B g1 g2 X W.drew:=⟨h.size,h.block⟩
theorem KpB.drewN {B g1 g2:Nat} {X W:World} (h:KpB B g1 g2 X W) (n:Nat):KpB B g1 g2 X (W.drewN n):=⟨h.size,h.block⟩
theorem KpB.cell {B g1 g2:Nat} {W W':World} (h:KpB B g1 g2 W W') {a:Addr} {v:Value} (hc:W.cell? a=some v) (hB:a.block < B) (h1:a.block≠g1) (h2:a.block≠g2):W'.cell? a=some v:=by
 unfold World.cell? at hc ⊢;rw [h.block _ hB h1 h2]; exact hc
theorem KpB.sl {B g1 g2:Nat} {W W':World} (h:KpB B g1 g2 W W') {A:Option Addr} {l:List Nat} {c:Nat} (hs:Sl W A l c) (hf:0 < l.length→∀ ad,A=some ad→ad.block < B∧ad.block≠g1∧ad.block≠g2):Sl W' A l c:=
 ⟨fun hl=>by
  obtain ⟨b,o,e,hc⟩:=hs.rd hl;have hf':=hf hl _ e;exact ⟨b,o,e,fun i hi=>h.cell (hc i hi) hf'.1 hf'.2.1 hf'.2.2⟩,hs.lim,hs.le,hs.len⟩
theorem ownFrom_kp {β:Type} {B g1 g2:Nat} {W0:World} (hB:B≤W0.heap.size):OwnFrom B (fun (_:β) W=>KpB B g1 g2 W0 W):=
 fun _ W W' row hs hg hr=>⟨Nat.le_trans hs.size hg.size,fun k hk h1 h2=>(hg.block k (Nat.lt_of_lt_of_le hk (Nat.le_trans hB hs.size)) (fun e=>by have:=(hr k e.symm).1; omega)).trans (hs.block k hk h1 h2)⟩
theorem own_block {B k:Nat} {W W':World} {row:Option Nat} {o:Obj} (h:W.heap[k]? = some o) (hk:k < B) (hg:W.grownBy W' row) (hr:∀ r,row=some r→B≤r∧∃ o:Obj,W.heap[r]? = some o∧o.isCells=false):W'.heap[k]? = some o:=
 (hg.block k (lt_of_block' h) (fun e=>by have:=(hr k e.symm).1; omega)).trans h
where lt_of_block' {W:World} {k:Nat} {o:Obj} (h:W.heap[k]? = some o):k < W.heap.size:=(Array.getElem?_eq_some_iff.1 h).1
theorem keeps_drewN (B:Nat) (W:World) (n:Nat):KeepsFrom B W (W.drewN n):=⟨Nat.le_refl _,fun _ _ _ h _=>h⟩
theorem keeps_drew (B:Nat) (W:World):KeepsFrom B W W.drew:=⟨Nat.le_refl _,fun _ _ _ h _=>h⟩
end Go.Proofs.YtgnjhlnolihgcaaGreat
namespace Go.Proofs.YtgnjhlnolihgcaaGreat
open Lib renaming hid → lh
open Go.RowKit
def noDefer (ops:Array Oper):Bool:=ops.toList.all fun o=>match o.op with | .defer _=>false | _=>true
theorem noDefer_spec {ops:Array Oper} (h:noDefer ops=true) {i:Nat} {o:Oper} (hi:ops[i]? = some o):∀ c,o.op≠.defer c:=by
 intro c e
 have hm:o∈ops.toList:=by
  rw [← Array.getElem?_toList] at hi;exact List.mem_of_getElem? hi
 have:=List.all_eq_true.1 h o hm;rw [e] at this;cases this
section
variable {P:Program} {ops:Array Oper} {Q:Exit→Act→World→Prop} {l n:Nat}
theorem rowsIn_round {row:String} {args:Array Value} {w:World} {R:Value→World→Prop} (h:Rows P row args w R):RowsIn (Fence.wide.inRound l) n P row args w R:=by
 intro c cs _;obtain ⟨v,w',hr,hs⟩:=h c cs;exact ⟨v,w',hr,stepsIn_wide.2 hs⟩
theorem wpOpIn_round (hnd:noDefer ops=true) (hlo:¬ LetsOut Q) {i:Nat} {K:Act→World→Prop} {a:Act} {w:World} (h:wpOp P ops Q i K a w):wpOpIn (Fence.wide.inRound l) n P ops Q i K a w:=by
 unfold wpOp at h;unfold wpOpIn
 cases ho:ops[i]? with
 | none=>rw [ho] at h; exact h
 | some o=>
  rw [ho] at h;dsimp only at h ⊢;split at h
  ·rename_i hw
   rw [if_pos hw];have h2:=h.resolve_right (fun h3=>hlo h3.2);unfold Oper.wp at h2;refine ⟨fun _ _=>trivial,?_⟩;rw [Oper.semAt_eq _ _ _ (noDefer_spec hnd ho)];generalize (execOp a.eval o).run P w=r at *
   cases r with
   | ok x w'=>
    cases x with
    | enter f args=>exact ⟨fun hd=>by simp [Fence.inRound,Fence.wide] at hd,callsIn_wide.2 h2⟩
    | row rw args=>exact ⟨fun hd=>by simp [Fence.inRound,Fence.wide] at hd,rowsIn_round h2⟩
    | round l f tmps assign body=>exact h2.elim
    | value v=>exact h2
    | skip=>exact h2
    | defer d=>exact h2
    | _=>exact h2.elim
   | halt x w'=>cases x <;> simp only [Oper.upon,Oper.uponIn] at h2 ⊢ <;> exact h2
  ·rename_i hw
   rw [if_neg hw];exact ⟨fun _ _=>trivial,h⟩
theorem wpAnyIn_round (hnd:noDefer ops=true) (hlo:¬ LetsOut Q) {md:Region.Mode} : ∀ (fuel:Nat) (listed:Array Bool) (a:Act) (w:World),wpAny P md ops Q fuel listed a w→wpAnyIn (Fence.wide.inRound l) n P md ops Q fuel listed a w
 | 0,_,_,_,h=>h
 | fuel+1,_,_,_,h=>⟨h.1,fun i hi=>wpOpIn_mono (fun a' w' h'=>wpAnyIn_round hnd hlo fuel _ a' w' h') (wpOpIn_round hnd hlo (h.2 i hi))⟩
theorem wpIn_region_heldR {S:World→Prop} {id:Nat} {a:Act} {w:World} (hm:P.follows .mixedOrders=true) (hnd:noDefer ops=true) (hlo:¬ LetsOut Q) (hS:S w.drew)
  (h:S w.drew→wpAnyH P .any ops Q S ops.size (Array.replicate ops.size false) a w.drew):(Code.region id ops true).wpIn (Fence.wide.inRound l) n P Q a w:=
 wpIn_region_any hm (wpAnyIn_round hnd hlo _ _ _ _ (wpAny_of_held _ _ _ _ (h hS)))
end
end Go.Proofs.YtgnjhlnolihgcaaGreat
namespace Go.Proofs.YtgnjhlnolihgcaaGreat
open Lib renaming hid → lh
open Go.RowKit Go.Shelf
theorem cmp_done (a b:List Nat) (n:Nat):∀ (m:Nat) (h:m≤n),(∀ p∈downA n m h,a[p.1]?.getD 0=b[p.1]?.getD 0)→cmpTop a b m=0
 | 0,_,_=>rfl
 | m+1,h,hp=>by
  have h1:=hp ⟨m,by omega⟩ (by simp [downA]);dsimp only at h1;rw [cmpTop,if_neg (by omega),if_neg (by omega)];exact cmp_done a b n m (by omega) (fun p hp'=>hp p (by rw [downA]; exact List.mem_cons_of_mem _ hp'))
theorem cmp_stop (a b:List Nat) (n:Nat) (last:{ i:Nat // i < n }) (rest:List { i:Nat // i < n }):∀ (m:Nat) (h:m≤n) (ini:List { i:Nat // i < n }),
  ini ++ last :: rest=downA n m h→(∀ p∈ini,a[p.1]?.getD 0=b[p.1]?.getD 0)→a[last.1]?.getD 0≠b[last.1]?.getD 0→cmpTop a b m=if a[last.1]?.getD 0 < b[last.1]?.getD 0 then -1 else 1
 | 0,_,ini,e,_,_=>by simp [downA] at e
 | m+1,h,[],e,_,hne=>by
  rw [downA] at e;simp only [List.nil_append,List.cons.injEq] at e;rw [e.1];rw [e.1] at hne;dsimp only at hne ⊢;rw [cmpTop];by_cases hlt:a[m]?.getD 0 < b[m]?.getD 0
  ·rw [if_pos hlt,if_pos hlt]
  ·rw [if_neg hlt,if_neg hlt,if_pos (by omega)]
 | m+1,h,p :: ini,e,hp,hne=>by
  rw [downA] at e;simp only [List.cons_append,List.cons.injEq] at e;have h1:=hp p (by simp);rw [e.1] at h1;dsimp only at h1;rw [cmpTop,if_neg (by omega),if_neg (by omega)];exact cmp_stop a b n last rest m (by omega) ini e.2 (fun q hq=>hp q (by simp [hq])) hne
attribute [local go_sem] Oper.semAt_some
theorem q1a (A1 A2:Option Addr) (l1 l2:List Nat) (c1 c2:Nat) (w:World) (hs1:Sl w A1 l1 c1) (hs2:Sl w A2 l2 c2) :
  Calls Tryz.prog 161 #[.slice A1 l1.length c1,.slice A2 l2.length c2] w fun e w'=>e=.returned (.int .i64 (cmpL l1 l2))∧Below w.heap.size w w':=by
 refine (callsIn_wide (n:=5)).1 ?_;have Hs1:=lh hs1;have Hs2:=lh hs2;clear hs1 hs2;by_cases hl:l1.length=l2.length
 ·have Hl:=lh hl;rw [← hl];clear hl;refine callsIn_of_wp_marks Tryz.func161 rfl trivial ?_ rfl;simp only [Tryz.ntmps161,List.size_toArray,List.length_cons,List.length_nil,Nat.reduceAdd,Nat.reduceSub,Array.replicate_succ,Array.replicate_zero,List.push_toArray,List.append_toArray,List.nil_append,List.cons_append];gi_wp2_with (refine ⟨trivial,?_⟩; gi_at_call 191; refine (down_in _ _ trivial rfl _ _ _ _).mono ?_; rintro e w' ⟨rfl,rfl⟩)
  have Q:Hid ((((w.alloc (.cells #[.slice A2 l1.length c2] 44)).alloc (.cells #[.int .i64 0] 3)).alloc (.cells #[.slice A1 l1.length c1] 44)).cell? ⟨w.heap.size+1+1,0,none⟩=some (.slice A1 l1.length c1)):=(by unfold Hid; go_simp);have Q2:Hid ((((w.alloc (.cells #[.slice A2 l1.length c2] 44)).alloc (.cells #[.int .i64 0] 3)).alloc (.cells #[.slice A1 l1.length c1] 44)).cell? ⟨w.heap.size,0,none⟩=some (.slice A2 l1.length c2)):=(by unfold Hid; go_simp);have Q3:Hid ((((w.alloc (.cells #[.slice A2 l1.length c2] 44)).alloc (.cells #[.int .i64 0] 3)).alloc (.cells #[.slice A1 l1.length c1] 44)).cell? ⟨w.heap.size+1,0,none⟩=some (.int .i64 0)):=(by unfold Hid; go_simp);have Q4:Hid ((((w.alloc (.cells #[.slice A2 l1.length c2] 44)).alloc (.cells #[.int .i64 0] 3)).alloc (.cells #[.slice A1 l1.length c1] 44)).frozen? ⟨w.heap.size+1,0,none⟩=false):=(by unfold Hid; go_simp);have Hs1':=lh (((Hs1.out.alloc (.cells #[.slice A2 l1.length c2] 44)).alloc (.cells #[.int .i64 0] 3)).alloc (.cells #[.slice A1 l1.length c1] 44));have Hs2':=lh (((Hs2.out.alloc (.cells #[.slice A2 l1.length c2] 44)).alloc (.cells #[.int .i64 0] 3)).alloc (.cells #[.slice A1 l1.length c1] 44));have hB0:=blw3 w (.cells #[.slice A2 l1.length c2] 44) (.cells #[.int .i64 0] 3) (.cells #[.slice A1 l1.length c1] 44);have hsz:(((w.alloc (.cells #[.slice A2 l1.length c2] 44)).alloc (.cells #[.int .i64 0] 3)).alloc (.cells #[.slice A1 l1.length c1] 44)).heap.size=w.heap.size+3:=(by simp);generalize ((w.alloc (.cells #[.slice A2 l1.length c2] 44)).alloc (.cells #[.int .i64 0] 3)).alloc (.cells #[.slice A1 l1.length c1] 44)=W0 at *;have HB0:=lh hB0;clear hB0
  refine wpIn_rangeFunc_ownG rfl (by omega) (gf:=227) (lb:=#[.pointer (some ⟨w.heap.size+1+1,0,none⟩)]) rfl trivial (enters_of Tryz.func227 (by kernel_rfl) rfl)
   (down1_below Fence.wide 4 trivial rfl (by omega) (w.heap.size+1+1) c1 A1 l1 W0 Hs1'.out Q.out) belowK_t (belowK_b (Nat.le_refl _)) (Below.refl _ _) (fun _=>rfl)
   (fun pre W=>((∀ p∈pre,l1[p.1]?.getD 0=l2[p.1]?.getD 0)∧W.cell? ⟨w.heap.size+1,0,none⟩=some (.int .i64 0)∧W.frozen? ⟨w.heap.size+1,0,none⟩=false)∧Below W0.heap.size W0 W)
   (fun c pre W=>(c=.ret∧∃ ini last,pre=ini ++ [last]∧(∀ p∈ini,l1[p.1]?.getD 0=l2[p.1]?.getD 0)∧l1[last.1]?.getD 0≠l2[last.1]?.getD 0∧W.cell? ⟨w.heap.size+1,0,none⟩=some (.int .i64 (if l1[last.1]?.getD 0 < l2[last.1]?.getD 0 then -1 else 1)))∧Below w.heap.size w W)
   (OwnFrom.and (Own.from (fun s A B row hs hg hr=>⟨hs.1,cell_kept hs.2.1 hg hr,(frozen_kept hs.2.1 hg hr).trans hs.2.2⟩) _) (ownFrom_below (Nat.le_refl _) (Nat.le_refl _)))
   (fun c=>OwnFrom.and (Own.from (fun s A B row hs hg hr=>by obtain ⟨hc,ini,last,e1,e2,e3,e4⟩:=hs; exact ⟨hc,ini,last,e1,e2,e3,cell_kept e4 hg hr⟩) _) (ownFrom_below (Nat.le_refl _) (by omega)))
   ⟨⟨by simp,Q3.out,Q4.out⟩,Below.refl _ _⟩
   (fun x=>{ tmps:=#[.slice A1 l1.length c1,.slice A2 l1.length c2,undef,.pointer (some ⟨w.heap.size,0,none⟩),.pointer (some ⟨w.heap.size+1,0,none⟩),.int .i64 (x.1:Int),.int .u32 (l1[x.1]?.getD 0:Nat),.slice A1 l1.length c1,.int .i64 l1.length,.slice A2 l1.length c2,.int .i64 l1.length,.bool false,undef,undef,undef,undef,undef,.slice A1 l1.length c1,
    .func (.func 227) #[] #[.pointer (some ⟨w.heap.size+1+1,0,none⟩)],.int .i64 (x.1:Int),.int .u32 (l1[x.1]?.getD 0:Nat),undef,undef,undef,undef,undef,undef,undef,undef,undef,undef,undef,undef],defers:=[] }) ?assign ?body ?done ?stop
  case assign=>
   intro l x W K hK;simp only [encD];gi_wp2
   exact hK
  case body=>
   rintro l pre x W ⟨⟨hp,hcr,hfr⟩,hB⟩ _;have q2:=q0b hB Q2.out;obtain ⟨b,o,rfl,hx⟩:=(Hs2'.out.below hB).rd.at_ (k:=x.1) (by have:=x.2; rw [← Hl.out]; exact this);have hx1:=x.2;have HB:=lh hB;have Hp:=lh hp;clear hB hp;have ex:l1[x.1]?.getD 0=l1[x.1]:=(by rw [List.getElem?_eq_getElem x.2]; rfl);have Ex:=lh ex;clear ex;gi_wp2
   ·have hlt:l1[x.1] < l2[x.1]?.getD 0:=(by assumption);exact ⟨(KeepsOthers.setCell _ _ _).from _,⟨rfl,pre,x,rfl,Hp.out,by rw [Ex.out]; omega,by rw [Ex.out,if_pos hlt]; exact World.cell?_setCell_same' _ _ _ (by rw [hcr]; rfl)⟩,(HB0.out.trans (HB.out.mono (by omega))).setCell (p:=⟨w.heap.size+1,0,none⟩) (by simp) _⟩
   ·have hlt:¬ l1[x.1] < l2[x.1]?.getD 0:=(by assumption);have hgt:l2[x.1]?.getD 0 < l1[x.1]:=(by assumption);exact ⟨(KeepsOthers.setCell _ _ _).from _,⟨rfl,pre,x,rfl,Hp.out,by rw [Ex.out]; omega,by rw [Ex.out,if_neg hlt]; exact World.cell?_setCell_same' _ _ _ (by rw [hcr]; rfl)⟩,(HB0.out.trans (HB.out.mono (by omega))).setCell (p:=⟨w.heap.size+1,0,none⟩) (by simp) _⟩
   ·have hlt:¬ l1[x.1] < l2[x.1]?.getD 0:=(by assumption);have hgt:¬ l2[x.1]?.getD 0 < l1[x.1]:=(by assumption);exact ⟨KeepsFrom.refl _ _,Below.refl _ _,⟨fun p hp'=>(List.mem_append.1 hp').elim (Hp.out p) (fun e=>by simp only [List.mem_singleton] at e; subst e; rw [Ex.out]; omega),hcr,hfr⟩,HB.out⟩
  case done=>
   rintro D ys W hD rfl ⟨⟨hp,hcr,hfr⟩,hB⟩ hK;have hr:cmpL l1 l2=0:=(by rw [cmpL,if_pos Hl.out]; exact cmp_done l1 l2 _ _ _ hp);have Hr:=lh hr;have HB:=lh (HB0.out.trans (hB.mono (by omega)));clear hp hr hB;gi_wp2
   have hK':=(KeepsOthers.setCell W ⟨w.heap.size+1,0,none⟩ (.int .i64 0)).same D _ hK rfl;refine ⟨by simp,.inl ⟨_,_,rfl,run_takeDeferred hK',?_⟩⟩;have hc5:=cell_kept (World.cell?_setCell_same' W ⟨w.heap.size+1,0,none⟩ (.int .i64 0) (by rw [hcr]; rfl)) (grownBy_putObj' _ D (.deferred none)) (fun r e=>by cases e; exact ⟨_,hK',rfl⟩);refine ⟨.int .i64 0,?_,by rw [Hr.out],(HB.out.setCell (p:=⟨w.heap.size+1,0,none⟩) (by simp) _).trans (belowK_b (w:=w) (Nat.le_refl _) _ D _ _ (by omega) hK' rfl rfl)⟩;simp [results,Tryz.f161,go_sem,hc5]
  case stop=>
   rintro D c pre W hD ⟨rest,hrest⟩ ⟨⟨rfl,ini,last,rfl,hp,hne,hcr⟩,hB⟩ hK
   have hr:cmpL l1 l2=if l1[last.1]?.getD 0 < l2[last.1]?.getD 0 then -1 else 1:=by
    rw [cmpL,if_pos Hl.out];exact cmp_stop l1 l2 l1.length last rest l1.length (Nat.le_refl _) ini (by have h:=hrest; simp only [List.append_assoc,List.cons_append,List.nil_append] at h; exact h) hp hne
   generalize (if l1[last.1]?.getD 0 < l2[last.1]?.getD 0 then (-1:Int) else 1)=z at *;have Hr:=lh hr;have HB:=lh hB;clear hp hr hB hne hrest;gi_wp2
   refine ⟨by simp,.inl ⟨_,_,rfl,run_takeDeferred hK,?_⟩⟩;have hc5:=cell_kept hcr (grownBy_putObj' _ D (.deferred none)) (fun r e=>by cases e; exact ⟨_,hK,rfl⟩);refine ⟨.int .i64 z,?_,by rw [Hr.out],HB.out.trans (belowK_b (w:=w) (Nat.le_refl _) W D _ _ (by omega) hK rfl rfl)⟩;simp [results,Tryz.f161,go_sem,hc5]
 ·have Hl:Hid (¬ l1.length=l2.length):=hl;have h1:((l1.length:Int) != l2.length)=true:=(by rw [bne_iff_ne]; omega);by_cases hlt:l1.length < l2.length
  ·have hr:cmpL l1 l2 = -1:=(by rw [cmpL,if_neg hl,if_pos hlt]);rw [hr];clear hr hl;refine callsIn_wide.2 ?_;go_enter Tryz.func161,Tryz.ntmps161
   go_wp2_with fail
   exact bodyPost_ret (v:=.int .i64 (-1)) (by simp [results,Tryz.results161,go_sem]) rfl ⟨rfl,blw2 _ _ _⟩
  ·have hr:cmpL l1 l2=1:=(by rw [cmpL,if_neg hl,if_neg hlt]);rw [hr];clear hr hl;refine callsIn_wide.2 ?_;go_enter Tryz.func161,Tryz.ntmps161
   go_wp2_with fail
   exact bodyPost_ret (v:=.int .i64 1) (by simp [results,Tryz.results161,go_sem]) rfl ⟨rfl,blw2 _ _ _⟩
end Go.Proofs.YtgnjhlnolihgcaaGreat
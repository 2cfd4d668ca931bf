import Derived.Test.YtgnjhlnolihgcaaGreatMg18
import Derived.Test.YtgnjhlnolihgcaaGreatEphSw
set_option maxHeartbeats 8000000
set_option maxRecDepth 100000
namespace Go.Proofs.YtgnjhlnolihgcaaGreat
open List renaming getElem_toArray → z0q, getElem_cons_zero → z1q, getElem_cons_succ → z2q, setIfInBounds_toArray → z3q, set_cons_zero → z4q, set_cons_succ → z5q
open Lib renaming hid → lh
open Go.RowKit
structure SlN (w:World) (B:Nat) (A:Option Addr) (n:Nat) (f:Nat→Int × Int) (c:Nat):Prop where
 at_:∀ k,k < n→∃ b o A1 c1 A2 c2,A=some ⟨b,o,none⟩∧b < B∧w.cell? ⟨b,o+k * 4,none⟩=some (.bool (wOf (f k).1).1)∧w.cell? ⟨b,o+k * 4+1,none⟩=some (.slice A1 (wOf (f k).1).2.length c1) ∧
  w.cell? ⟨b,o+k * 4+2,none⟩=some (.bool (wOf (f k).2).1)∧w.cell? ⟨b,o+k * 4+3,none⟩=some (.slice A2 (wOf (f k).2).2.length c2)∧Sl w A1 (wOf (f k).1).2 c1∧Sl w A2 (wOf (f k).2).2 c2
 le:n≤c
section
variable {w w':World} {B:Nat} {A:Option Addr} {n c:Nat} {f:Nat→Int × Int}
theorem SlN.below (h:SlN w B A n f c) (hb:Below w.heap.size w w'):SlN w' B A n f c:=by
 refine ⟨fun k hk=>?_,h.le⟩;obtain ⟨b,o,A1,c1,A2,c2,e,hB,h0,h1,h2,h3,s1,s2⟩:=h.at_ k hk;exact ⟨b,o,A1,c1,A2,c2,e,hB,q0b hb h0,q0b hb h1,q0b hb h2,q0b hb h3,s1.below hb,s2.below hb⟩
theorem SlN.cong {f':Nat→Int × Int} (h:SlN w B A n f c) (he:∀ k,k < n→f k=f' k):SlN w B A n f' c:=by
 refine ⟨fun k hk=>?_,h.le⟩;have:=h.at_ k hk;rwa [he k hk] at this
theorem SlN.sub {b o:Nat} (h:SlN w B (some ⟨b,o,none⟩) n f c) {a m:Nat} (ham:a≤m) (hm:m≤n):SlN w B (some ⟨b,o+a * 4,none⟩) (m - a) (fun k=>f (a+k)) (c - a):=by
 refine ⟨fun k hk=>?_,by have:=h.le; omega⟩;obtain ⟨b',o',A1,c1,A2,c2,e,hB,h0,h1,h2,h3,s1,s2⟩:=h.at_ (a+k) (by omega);cases e
 have e4:o+a * 4+k * 4=o+(a+k) * 4:=(by omega);refine ⟨b,o+a * 4,A1,c1,A2,c2,rfl,hB,?_,?_,?_,?_,s1,s2⟩;all_goals rw [e4]; assumption
end
structure RowN (w:World) (g:Nat) (t:TypeId) (cap n:Nat) (f:Nat→Int × Int):Prop where
 ex:∃ cs:List Value,BlkV w g t cs.toArray∧cs.length=cap * 4∧(∀ v∈cs,∀ m:Int,v≠.int .u32 m)∧∀ k,k < n→∃ A1 c1 A2 c2,cs[k * 4]? = some (.bool (wOf (f k).1).1)∧cs[k * 4+1]? = some (.slice A1 (wOf (f k).1).2.length c1) ∧
  cs[k * 4+2]? = some (.bool (wOf (f k).2).1)∧cs[k * 4+3]? = some (.slice A2 (wOf (f k).2).2.length c2)∧Sl w A1 (wOf (f k).1).2 c1∧Sl w A2 (wOf (f k).2).2 c2
 le:n≤cap
section
variable {w w':World} {g:Nat} {t:TypeId} {cap n:Nat} {f:Nat→Int × Int}
theorem RowN.keep (h:RowN w g t cap n f) (hb:Below w.heap.size w w'):RowN w' g t cap n f:=by
 obtain ⟨cs,h1,h2,h3,h4⟩:=h.ex;refine ⟨⟨cs,h1.keep hb,h2,h3,fun k hk=>?_⟩,h.le⟩;obtain ⟨A1,c1,A2,c2,e0,e1,e2,e3,s1,s2⟩:=h4 k hk;exact ⟨A1,c1,A2,c2,e0,e1,e2,e3,s1.below hb,s2.below hb⟩
theorem RowN.lt (h:RowN w g t cap n f):g < w.heap.size:=by
 obtain ⟨cs,h1,-⟩:=h.ex;exact h1.lt
theorem RowN.sl (h:RowN w g t cap n f):SlN w w.heap.size (some ⟨g,0,none⟩) n f cap:=by
 obtain ⟨cs,h1,h2,h3,h4⟩:=h.ex;refine ⟨fun k hk=>?_,h.le⟩;obtain ⟨A1,c1,A2,c2,e0,e1,e2,e3,s1,s2⟩:=h4 k hk;refine ⟨g,0,A1,c1,A2,c2,rfl,h1.lt,?_,?_,?_,?_,s1,s2⟩;all_goals rw [Nat.zero_add,h1.cell]; simpa using by assumption
theorem RowN.new (w:World) (t:TypeId) (cap:Nat) (cs:List Value) (hl:cs.length=cap * 4) (hc:∀ v∈cs,∀ m:Int,v≠.int .u32 m) (f:Nat→Int × Int):RowN (w.alloc (.cells cs.toArray t)) w.heap.size t cap 0 f:=
 ⟨⟨cs,BlkV.fresh rfl _ _,hl,hc,fun k hk=>by omega⟩,Nat.zero_le _⟩
theorem Sl.block_ne {cs:Array Value} {A:Option Addr} {l:List Nat} {c:Nat} (h:Sl w A l c) (hk:BlkV w g t cs) (hn:∀ v∈cs,∀ m:Int,v≠.int .u32 m) (w':World) (hw:∀ k,k≠g→k < w.heap.size→w'.heap[k]? = w.heap[k]?):Sl w' A l c:=by
 refine ⟨fun hl=>?_,h.lim,h.le,h.len⟩;obtain ⟨b,o,e,hc⟩:=h.rd hl;refine ⟨b,o,e,fun i hi=>?_⟩;have h1:=hc i hi
 have hb:b≠g:=by
  rintro rfl;rw [hk.cell] at h1;exact hn _ (Array.mem_of_getElem? h1) _ rfl
 have hlt:=lt_of_cell h1;unfold World.cell? at h1 ⊢;rwa [hw b hb hlt]
theorem RowN.app (h:RowN w g t cap n f) (hn:n < cap) {A1 A2:Option Addr} {c1 c2:Nat} (s1:Sl w A1 (wOf (f n).1).2 c1) (s2:Sl w A2 (wOf (f n).2).2 c2) {P:Program} {te:TypeId} {i:TypeInfo} (ht:P.underlying te=some (.slice t)) (hi:P.info? t=some i) (hsz:i.size=4) {a:Nat} {tb:TypeId}
  (ha:BlkV w a tb #[.bool (wOf (f n).1).1,.slice A1 (wOf (f n).1).2.length c1,.bool (wOf (f n).2).1,.slice A2 (wOf (f n).2).2.length c2]) :
  ∃ w',(∀ ty,(Builtin.append_ #[te,te] ty #[.slice (some ⟨g,0,none⟩) n cap,.slice (some ⟨a,0,none⟩) 1 1]).run P w=.ok (.slice (some ⟨g,0,none⟩) (n+1) cap) w')∧RowN w' g t cap (n+1) f∧∀ B v,Below B v w→B≤g→Below B v w':=by
 obtain ⟨cs,h1,h2,h3,h4⟩:=h.ex
 have hr:=fun ty=>run_append_room (P:=P) w te ty t i ht hi g n cap cs.toArray h1 ⟨a,0,none⟩ 1 1 [.bool (wOf (f n).1).1,.slice A1 (wOf (f n).1).2.length c1,.bool (wOf (f n).2).1,.slice A2 (wOf (f n).2).2.length c2] (by rw [hsz]; rfl)
  (fun j u hj=>by
   have e:(⟨a,0,none⟩:Addr).add j=⟨a,j,none⟩:=by unfold Addr.add; split <;> simp_all
   rw [e,ha.cell]; simpa using hj) (fun u hu=>by
   simp only [List.mem_cons,List.not_mem_nil,or_false] at hu;obtain rfl | rfl | rfl | rfl:=hu <;> rfl) (by omega) (by rw [hsz]; simp [h2]; omega)
 refine ⟨_,hr,?_,fun B v hb hB=>?_⟩
 ·rw [hsz];simp only;generalize hnew:[Value.bool (wOf (f n).1).1,.slice A1 (wOf (f n).1).2.length c1,.bool (wOf (f n).2).1,.slice A2 (wOf (f n).2).2.length c2]=nw;have hnl:nw.length=4:=(by rw [← hnew]; rfl);have ht:(cs.take (n * 4)).length=n * 4:=(by rw [List.length_take]; omega);have hw:∀ k,k≠g→k < w.heap.size→(w.setRow g (cs.take (n * 4) ++ nw ++ cs.drop (n * 4+nw.length)).toArray).heap[k]? = w.heap[k]?:=fun k hk _=>setRow_other w g k _ hk;have hcs:∀ v∈cs.toArray,∀ m:Int,v≠.int .u32 m:=fun v hv=>h3 v (by simpa using hv);refine ⟨⟨_,setRow_heap w g cs.toArray _ t _ h1,?_,?_,fun k hk=>?_⟩,by omega⟩
  ·simp only [List.length_append,List.length_drop,ht,hnl]; omega
  ·intro v hv m;rw [List.append_assoc] at hv;rcases List.mem_append.1 hv with hv | hv
   ·exact h3 v (List.mem_of_mem_take hv) m
   ·rcases List.mem_append.1 hv with hv | hv
    ·rw [← hnew] at hv;simp only [List.mem_cons,List.not_mem_nil,or_false] at hv;obtain rfl | rfl | rfl | rfl:=hv <;> intro h <;> cases h
    ·exact h3 v (List.mem_of_mem_drop hv) m
  ·rcases Nat.lt_or_ge k n with hkn | hkn
   ·obtain ⟨B1,d1,B2,d2,e0,e1,e2,e3,t1,t2⟩:=h4 k hkn;refine ⟨B1,d1,B2,d2,?_,?_,?_,?_,t1.block_ne h1 hcs _ hw,t2.block_ne h1 hcs _ hw⟩;all_goals (rw [List.append_assoc,List.getElem?_append_left (by omega),List.getElem?_take_of_lt (by omega)]; assumption)
   ·obtain rfl:k=n:=by omega
    refine ⟨A1,c1,A2,c2,?_,?_,?_,?_,s1.block_ne h1 hcs _ hw,s2.block_ne h1 hcs _ hw⟩;all_goals (rw [List.append_assoc,List.getElem?_append_right (by omega),List.getElem?_append_left (by omega),ht,← hnew])
    ·rw [Nat.sub_self]; rfl
    ·rw [Nat.add_sub_cancel_left]; rfl
    ·rw [Nat.add_sub_cancel_left]; rfl
    ·rw [Nat.add_sub_cancel_left]; rfl
 ·exact hb.grown (row:=some g) ⟨rfl,rfl,rfl,by simp,fun k _ hk=>setRow_other w g k _ (fun e=>hk (by simp [e]))⟩ (by have:=h1.lt; omega) (fun k e=>by cases e; exact hB)
end
theorem wp_app_at {P:Program} {o:Oper} {a:Act} {w:World} {K:Act→World→Prop} {Q:Exit→Act→World→Prop} (s x:Operand) (t:TypeId) (ho:o.op=.call { callee:=.builtin .append,args:=#[s,x],argTypes:=#[t,t] }) (v1 v2 v':Value) (w':World) (hs:a.eval s=v1) (hx:a.eval x=v2)
  (hr:(Builtin.append_ #[t,t] o.type #[v1,v2]).run P w=.ok v' w') (h:K (a.put o.dst v') w'):o.wp P a w K Q:=by
 unfold Oper.wp execOp;simp only [ho,resolve,invoke,builtin,Sem.run_bind,Sem.run_pure,Result.andThen_ok,List.map_toArray,List.map_cons,List.map_nil,hs,hx,hr];exact h
end Go.Proofs.YtgnjhlnolihgcaaGreat
namespace Go.Proofs.YtgnjhlnolihgcaaGreat
open List renaming getElem_toArray → z0q, getElem_cons_zero → z1q, getElem_cons_succ → z2q, setIfInBounds_toArray → z3q, set_cons_zero → z4q, set_cons_succ → z5q
open Lib renaming hid → lh
open Go.RowKit Go.Shelf
attribute [local go_sem ↓] Go.wp_at_zero Go.wp_at_succ
attribute [local go_sem] Oper.semAt_some
theorem during1_mem (F:Fence) (n:Nat) (hf:F.fn 166) (hro:F.round=none) (hn:1≤n) (g1 g2 g3:Nat) (b:BG) (f t:Int) (B:Nat) (w:World) (hlen:b.ss.length≤4398046511104)
  (Kp:World→World→Prop) (Inv:World→Prop) (hI0:∀ W,Below w.heap.size w W→Inv W) (hIK:∀ W W',Inv W→Kp W W'→Inv W') (hIA:∀ W o,Inv W→Inv (W.alloc o))
  (hIr:∀ W,Inv W→BlkV W g1 92 #[.string ⟨b.nm.toArray⟩,.int .i64 b.gm,.int .i64 b.rd,.slice b.A b.ss.length b.c]∧W.cell? ⟨g2,0,none⟩=some (.int .i64 t)∧W.cell? ⟨g3,0,none⟩=some (.int .i64 f)∧SlS W B b.A b.ss b.c) :
  ∀ (l:Nat) (J Jx:List SG→World→Prop) (W:World),Below w.heap.size w W→AbidesFrom W.heap.size J→AbidesFrom W.heap.size Jx →
   (∀ pre x W1,x∈b.ss→inR f t x=true→J pre W1→pre.length < b.ss.length→YieldAt F (n - 1) Tryz.prog l (encG f t x) W1 fun e W'=>(e=.returned (.bool true)∧J (pre ++ [x]) W'∧Kp W1 W')∨(e=.returned (.bool false)∧Jx (pre ++ [x]) W')) →
   J [] W→CallsIn F n Tryz.prog 166 (#[.func (.yield l) #[] #[]] ++ #[.pointer (some ⟨g1,0,none⟩),.pointer (some ⟨g2,0,none⟩),.pointer (some ⟨g3,0,none⟩)]) W fun e W'=>(∃ v,e=.returned v)∧((∃ xs,xs=b.ss.filter (inR f t)∧J xs W')∨(∃ pre,(∃ rest,pre ++ rest=b.ss.filter (inR f t))∧Jx pre W')):=fun lp J Jx W hW hAJ _ hY h0=>by
 have hc1:=(hIr W (hI0 W hW)).1.at_ 3 rfl;have HIA:=lh hIA;have HAJ:=lh hAJ;clear hIA hAJ;obtain ⟨bA,hbA⟩:∃ a,b.A=a:=⟨_,rfl⟩;rw [hbA] at hc1 hIr;refine callsIn_of_wp Tryz.func166 rfl hf ?_ hro;simp only [Tryz.ntmps166,List.size_toArray,List.length_cons,List.length_nil,Nat.reduceAdd,Nat.reduceSub,Array.replicate_succ,Array.replicate_zero,List.push_toArray,List.append_toArray,List.nil_append,List.cons_append];gi_wp2
 gi_loopw [10] (fun i wr=>∃ k:Nat,k≤b.ss.length∧i=.int .i64 k∧J ((b.ss.take k).filter (inR f t)) wr∧Inv wr) (fun i _=>b.ss.length - (intOf i).toNat)
 case atStart=>exact ⟨0,Nat.zero_le _,rfl,h0,hI0 W hW⟩
 case round=>
  obtain ⟨k,hk,rfl,hJ,hb⟩:=hrel;obtain ⟨hq1,hq2,hq3,hs2⟩:=hIr wr hb;have HQ1:=lh hq1;have HQ2:=lh hq2;have HQ3:=lh hq3;have HS:=lh hs2;have HJ:=lh hJ;have HI:=lh hb;clear hq1 hq2 hq3 hs2 hJ hb;by_cases hlt:k < b.ss.length
  ·have tk':decide ((k:Int) < (b.ss.length:Int))=true:=decide_eq_true (by omega);obtain ⟨bb,o,rfl,-,p0,p1,p2,p3,p4,hok⟩:=HS.out.at_ hlt;have HIn:Hid (inR f t (b.ss[k]'hlt)=true→(b.ss.take (k+1)).filter (inR f t)=(b.ss.take k).filter (inR f t) ++ [b.ss[k]'hlt]):=fun h=>filt_snoc hlt h;have HSk:Hid (inR f t (b.ss[k]'hlt)=false→(b.ss.take (k+1)).filter (inR f t)=(b.ss.take k).filter (inR f t)):=fun h=>filt_skip hlt h;have HL:=lh (filt_le (inR f t) b.ss k);have hIdef:∀ s:SG,inR f t s=(decide (s.F≤t) && decide (f≤s.T)):=fun s=>rfl;have hmem:b.ss[k]'hlt∈b.ss:=List.getElem_mem hlt;generalize b.ss[k]'hlt=s at *;have HJA:Hid (J ((b.ss.take k).filter (inR f t)) (wr.alloc (.cells #[.int .i64 s.F,.int .i64 s.T,.slice s.A0 s.l0.length s.c0,.slice s.A1 s.l1.length s.c1,.slice s.A2 s.l2.length s.c2] 95))):=HAJ.out _ _ _ none HJ.out (World.grownBy_alloc wr _ none) (fun r e=>by cases e);have HIAx:Hid (Inv (wr.alloc (.cells #[.int .i64 s.F,.int .i64 s.T,.slice s.A0 s.l0.length s.c0,.slice s.A1 s.l1.length s.c1,.slice s.A2 s.l2.length s.c2] 95))):=HIA.out _ _ HI.out;have hy1:W.heap.size≤W.heap.size:=Nat.le_refl _
   cases hin:inR f t s with
   | false=>
    have HN:=lh (HSk.out hin);rw [hIdef] at hin;clear hY HIn HSk hy1 hmem;by_cases h1:s.F≤t
    ·have t1:decide (s.F≤t)=true:=decide_eq_true h1;have t2:decide (f≤s.T)=false:=(by rw [t1] at hin; simpa using hin);clear hin hIdef h1;have q2:=HQ2.out; have l2:=lt_of_cell (a:=⟨g2,0,none⟩) q2;have q3:=HQ3.out; have l3:=lt_of_cell (a:=⟨g3,0,none⟩) q3;gi_wp2
     refine ⟨fun _ h=>(by cases h),?_⟩;gi_wp2
     go_roundw
     case rel=>exact ⟨k+1,by omega,by go_num,by rw [HN.out]; exact HJA.out,HIAx.out⟩
     case measure=>simp [intOf]; omega
    ·have t1:decide (s.F≤t)=false:=decide_eq_false h1;clear hin hIdef h1;have q2:=HQ2.out; have l2:=lt_of_cell (a:=⟨g2,0,none⟩) q2;have q3:=HQ3.out; have l3:=lt_of_cell (a:=⟨g3,0,none⟩) q3;gi_wp2
     refine ⟨fun _ h=>(by cases h),?_⟩;gi_wp2
     go_roundw
     case rel=>exact ⟨k+1,by omega,by go_num,by rw [HN.out]; exact HJA.out,HIAx.out⟩
     case measure=>simp [intOf]; omega
   | true=>
    have HN:=lh (HIn.out hin);have hinn:=hin;rw [hIdef] at hin;simp only [Bool.and_eq_true,decide_eq_true_eq] at hin;have t1:decide (s.F≤t)=true:=decide_eq_true hin.1;have t2:decide (f≤s.T)=true:=decide_eq_true hin.2;have hpl:((b.ss.take k).filter (inR f t)).length < b.ss.length:=(by have:=HL.out; omega);obtain ⟨fn,tmps,assign,body,hy,hR⟩:=hY _ s _ hmem hinn HJA.out hpl;clear hY HIn HSk hin hinn hmem hIdef hpl;have q2:=HQ2.out; have l2:=lt_of_cell (a:=⟨g2,0,none⟩) q2;have q3:=HQ3.out; have l3:=lt_of_cell (a:=⟨g3,0,none⟩) q3;dsimp only [encG] at hy hR;gi_wp2
    refine hR.mono ?_;rintro e W3 (⟨rfl,hJ3,hk3⟩ | ⟨rfl,hJx3⟩)
    ·gi_wp2
     go_roundw
     case rel=>exact ⟨k+1,by omega,by go_num,by rw [HN.out]; exact hJ3,hIK _ _ HIAx.out hk3⟩
     case measure=>simp [intOf]; omega
    ·have HX:=lh (filt_rest (p:=inR f t) (ss:=b.ss) (k+1));rw [HN.out] at HX;gi_wp2
     refine bodyPost_ret (results_none rfl _ _ _) rfl ?_;exact ⟨⟨_,rfl⟩,.inr ⟨_,HX.out,hJx3⟩⟩
  ·obtain rfl:k=b.ss.length:=by omega
   have tk':decide ((b.ss.length:Int) < (b.ss.length:Int))=false:=decide_eq_false (by omega);have HE:Hid (J (b.ss.filter (inR f t)) wr):=(by have:=HJ.out; rwa [List.take_length] at this);gi_wp2
   go_end0
   exact ⟨⟨_,rfl⟩,.inl ⟨_,rfl,HE.out⟩⟩
abbrev InS (b:BG) (f t:Int):={ s:SG // s∈b.ss∧inR f t s=true }
theorem during1_sub (F:Fence) (n:Nat) (hf:F.fn 166) (hro:F.round=none) (hn:1≤n) (g1 g2 g3:Nat) (b:BG) (f t:Int) (B:Nat) (w:World) (hlen:b.ss.length≤4398046511104)
  (Kp:World→World→Prop) (Inv:World→Prop) (hI0:∀ W,Below w.heap.size w W→Inv W) (hIK:∀ W W',Inv W→Kp W W'→Inv W') (hIA:∀ W o,Inv W→Inv (W.alloc o))
  (hIr:∀ W,Inv W→BlkV W g1 92 #[.string ⟨b.nm.toArray⟩,.int .i64 b.gm,.int .i64 b.rd,.slice b.A b.ss.length b.c]∧W.cell? ⟨g2,0,none⟩=some (.int .i64 t)∧W.cell? ⟨g3,0,none⟩=some (.int .i64 f)∧SlS W B b.A b.ss b.c) :
  SeqStopsK F n Tryz.prog 166 #[.pointer (some ⟨g1,0,none⟩),.pointer (some ⟨g2,0,none⟩),.pointer (some ⟨g3,0,none⟩)] (fun x:InS b f t=>encG f t x.1) Kp (fun ys=>ys.map (·.1)=b.ss.filter (inR f t)) (fun pre=>∃ rest,pre.map (·.1) ++ rest=b.ss.filter (inR f t)) b.ss.length w:=fun lp J Jx W hW hJ hJx hY h0=>by
 have ab:∀ {K:List (InS b f t)→World→Prop},AbidesFrom W.heap.size K→AbidesFrom W.heap.size (fun pre V=>∃ q:List (InS b f t),q.map (·.1)=pre∧K q V):=fun {K} h s X Y row hs hg hr=>by
  obtain ⟨q,e,hk⟩:=hs;exact ⟨q,e,h q X Y row hk hg hr⟩
 refine (during1_mem F n hf hro hn g1 g2 g3 b f t B w hlen Kp Inv hI0 hIK hIA hIr lp (fun pre V=>∃ q:List (InS b f t),q.map (·.1)=pre∧J q V) (fun pre V=>∃ q:List (InS b f t),q.map (·.1)=pre∧Jx q V) W hW (ab hJ) (ab hJx) ?_ ⟨[],rfl,h0⟩).mono ?_
 ·rintro pre x W1 hx hin ⟨q,rfl,hq⟩ hl;refine (hY q ⟨x,hx,hin⟩ W1 hq (by simpa using hl)).mono ?_;rintro e W' (⟨h1,h2,h3⟩ | ⟨h1,h2⟩)
  ·exact .inl ⟨h1,⟨_,by simp,h2⟩,h3⟩
  ·exact .inr ⟨h1,⟨_,by simp,h2⟩⟩
 ·rintro e W' ⟨hv,(⟨xs,h1,q,h2,h3⟩ | ⟨pre,⟨rest,h1⟩,q,h2,h3⟩)⟩
  ·exact ⟨hv,.inl ⟨q,h2.trans h1,h3⟩⟩
  ·exact ⟨hv,.inr ⟨q,⟨rest,by rw [h2]; exact h1⟩,h3⟩⟩
end Go.Proofs.YtgnjhlnolihgcaaGreat
namespace Go.Proofs.YtgnjhlnolihgcaaGreat
open List renaming getElem_toArray → z0q, getElem_cons_zero → z1q, getElem_cons_succ → z2q, setIfInBounds_toArray → z3q, set_cons_zero → z4q, set_cons_succ → z5q
open Lib renaming hid → lh
open Go.RowKit Go.Shelf
attribute [local go_sem ↓] Go.wp_at_zero Go.wp_at_succ
attribute [local go_sem] Oper.semAt_some
theorem ovE_bad {bs:List BG} {i f t:Int} (h:hasE bs i≠0):ovE bs i f t=(zV6,hasE bs i):=by
 unfold ovE;by_cases hc:chkE bs=0
 ·by_cases hi:0≤i∧i < bs.length
  ·exact absurd (hasE_in hc hi) h
  ·rw [if_pos hc,getB_none hi,hasE_out hc hi]
 ·rw [if_neg hc,hasE_bad hc]
theorem ovE_good {bs:List BG} {i f t:Int} (h:hasE bs i=0):ovE bs i f t=if t < f then (zV6,2) else if outT (getV bs i).ss f t then (zV6,16) else ovR (getV bs i).ss f t:=by
 obtain ⟨hc,hi⟩:=hasE_zero h;unfold ovE;rw [if_pos hc,getB_some hi,getV_ok h hi]
def ovP (f t:Int):Option V6→List SG→Option V6
 | o,[]=>o
 | o,s :: r=>ovP f t (some (mgO o (ovS s f t))) r
theorem ovP_snoc (f t:Int) (s:SG):∀ (o:Option V6) (pre:List SG),ovP f t o (pre ++ [s])=some (mgO (ovP f t o pre) (ovS s f t))
 | _,[]=>rfl
 | _,_ :: r=>ovP_snoc f t s _ r
theorem ovF_filter (f t:Int):∀ (o:Option V6) (ss:List SG),ovF f t o ss=ovP f t o (ss.filter (inR f t))
 | _,[]=>rfl
 | o,s :: r=>by
  unfold ovF;have e:ovIn s f t=inR f t s:=rfl;rw [e]
  cases h:inR f t s with
  | true=>rw [if_pos rfl,List.filter_cons_of_pos h,ovF_filter f t]; rfl
  | false=>rw [if_neg (by simp),List.filter_cons_of_neg (by rw [h]; simp),ovF_filter f t]
def ovV (f t:Int) (pre:List SG):V6:=(ovP f t none pre).getD zV6
theorem ovV_next (f t:Int) (pre:List SG) (s:SG):ovV f t (pre ++ [s])=if 0 < pre.length then mgV (ovS s f t) (ovV f t pre) else ovS s f t:=by
 unfold ovV;rw [ovP_snoc]
 cases pre with
 | nil=>rfl
 | cons x r=>
  rw [if_pos (by simp)]
  have:∃ u,ovP f t none (x :: r)=some u:=by
   have:∀ (o:V6) (l:List SG),∃ u,ovP f t (some o) l=some u:=fun o l=>by
    induction l generalizing o with
    | nil=>exact ⟨o,rfl⟩
    | cons y l ih=>exact ih _
   exact this _ r
  obtain ⟨u,hu⟩:=this;rw [hu];rfl
theorem ovR_eq (ss:List SG) (f t:Int):ovR ss f t=if chkV (ovV f t (ss.filter (inR f t))) then (ovV f t (ss.filter (inR f t)),0) else (zV6,16):=by
 unfold ovR ovV;rw [ovF_filter]
theorem outT_out {ss:List SG} {f t:Int} (h0:0 < ss.length):outT ss f t=(decide (f < (ss[0]'h0).F) || decide ((ss[ss.length - 1]'(by omega)).T < t)):=by
 unfold outT;rw [List.head?_eq_getElem?,List.getElem?_eq_getElem h0,List.getLast?_eq_getElem?,List.getElem?_eq_getElem (by omega)];rfl
theorem blk_own {B g:Nat} {W W':World} {row:Option Nat} {ty:TypeId} {xs:Array Value} (h:BlkV W g ty xs) (hlt:g < B) (hg:W.grownBy W' row) (hr:∀ r,row=some r→B≤r∧∃ o:Obj,W.heap[r]? = some o∧o.isCells=false):BlkV W' g ty xs:=
 (hg.block g h.lt (fun e=>by have:=(hr g e.symm).1; omega)).trans h
structure KpO (b0 B go gn:Nat) (X Y:World):Prop where
 kp:KpB B go gn X Y
 hb:Below b0 X Y
theorem KpO.refl (b0 B go gn:Nat) (X:World):KpO b0 B go gn X X:=⟨KpB.refl _ _ _ _,Below.refl _ _⟩
theorem KpO.trans {b0 B go gn:Nat} {X Y Z:World} (h:KpO b0 B go gn X Y) (k:KpO b0 B go gn Y Z):KpO b0 B go gn X Z:=⟨h.kp.trans k.kp,h.hb.trans k.hb⟩
theorem KpO.of {b0 B go gn:Nat} {X Y:World} (h:Below X.heap.size X Y) (h1:B≤X.heap.size) (h0:b0≤B):KpO b0 B go gn X Y:=⟨KpB.of (h.mono h1),h.mono (by omega)⟩
theorem KpO.putObj {b0 B go gn:Nat} (W:World) (l:Nat) (o o':Obj) (hl:B≤l) (h0:b0≤B) (h:W.heap[l]? = some o):KpO b0 B go gn W (W.putObj l o'):=
 ⟨KpB.putObj W l o' hl,(Below.refl b0 W).grown (grownBy_putObj' W l o') (by have:=(Array.getElem?_eq_some_iff.1 h).1; omega) (fun k e=>by cases e; omega)⟩
theorem KpO.grown {b0 B go gn:Nat} {X Y Z:World} {row:Option Nat} (h:KpO b0 B go gn X Y) (hX:B≤X.heap.size) (h0:b0≤B) (hg:Y.grownBy Z row) (hr:∀ r,row=some r→B≤r∧∃ o:Obj,Y.heap[r]? = some o∧o.isCells=false):KpO b0 B go gn X Z:=
 ⟨⟨Nat.le_trans h.kp.size hg.size,fun k hk h1 h2=>(hg.block k (by have:=h.kp.size; omega) (fun e=>by have:=(hr k e.symm).1; omega)).trans (h.kp.block k hk h1 h2)⟩,h.hb.grown hg (by have:=h.kp.size; omega) (fun k e=>by have:=(hr k e).1; omega)⟩
structure OvI (b0 go gn:Nat) (W0:World) (f t:Int) (pre:List SG) (W:World):Prop where
 kp:KpO b0 W0.heap.size go gn W0 W
 ko:BlkV W go 39 #[.int .i64 (ovV f t pre).l0,.int .i64 (ovV f t pre).h0,.int .i64 (ovV f t pre).l1,.int .i64 (ovV f t pre).h1,.int .i64 (ovV f t pre).l2,.int .i64 (ovV f t pre).h2]
 kn:BlkV W gn 3 #[.int .i64 pre.length]
section
variable {b0 go gn:Nat} {W0 W W':World} {f t:Int} {pre:List SG}
theorem OvI.keep (h:OvI b0 go gn W0 f t pre W) (h0:b0≤W0.heap.size) (hb:Below W.heap.size W W'):OvI b0 go gn W0 f t pre W':=
 ⟨h.kp.trans (KpO.of hb h.kp.kp.size h0),h.ko.keep hb,h.kn.keep hb⟩
theorem OvI.own {row:Option Nat} (h0:b0≤W0.heap.size) (l1:go < W0.heap.size) (l2:gn < W0.heap.size) (h:OvI b0 go gn W0 f t pre W) (hg:W.grownBy W' row) (hr:∀ r,row=some r→W0.heap.size≤r∧∃ o:Obj,W.heap[r]? = some o∧o.isCells=false):OvI b0 go gn W0 f t pre W':=
 ⟨h.kp.grown (Nat.le_refl _) h0 hg hr,blk_own h.ko l1 hg hr,blk_own h.kn l2 hg hr⟩
end
structure OvX (b0 B go gn gs gl:Nat) (Wb X:World) (u:V6) (n:Nat) (s:SG) (a b:Int):Prop where
 kf:KeepsFrom B Wb X
 kp:KpO b0 B go gn Wb X
 ko:BlkV X go 39 #[.int .i64 u.l0,.int .i64 u.h0,.int .i64 u.l1,.int .i64 u.h1,.int .i64 u.l2,.int .i64 u.h2]
 kn:BlkV X gn 3 #[.int .i64 n]
 ks:BlkV X gs 95 #[.int .i64 s.F,.int .i64 s.T,.slice s.A0 s.l0.length s.c0,.slice s.A1 s.l1.length s.c1,.slice s.A2 s.l2.length s.c2]
 kl:BlkV X gl 203 #[.int .i64 a,.int .i64 b]
 sB:B≤X.heap.size
theorem keeps_below {W W':World} (h:Below W.heap.size W W'):KeepsOthers W W':=⟨h.size,fun k _ hk _=>(h.block k (Array.getElem?_eq_some_iff.1 hk).1).trans hk⟩
section
variable {b0 B go gn gs gl:Nat} {Wb X Y:World} {u:V6} {n:Nat} {s:SG} {a b:Int}
theorem OvX.call (h:OvX b0 B go gn gs gl Wb X u n s a b) (h0:b0≤B) (hb:Below X.heap.size X Y):OvX b0 B go gn gs gl Wb Y u n s a b:=
 ⟨h.kf.trans ((keeps_below hb).from _),h.kp.trans (KpO.of hb h.sB h0),h.ko.keep hb,h.kn.keep hb,h.ks.keep hb,h.kl.keep hb,Nat.le_trans h.sB hb.size⟩
theorem OvX.far (h:OvX b0 B go gn gs gl Wb X u n s a b) (h0:b0≤B) {g:Nat} (hg:B≤g) (hne:go≠g∧gn≠g∧gs≠g∧gl≠g) (i:Nat) (v:Value):OvX b0 B go gn gs gl Wb (X.setCell ⟨g,i,none⟩ v) u n s a b:=
 ⟨h.kf.trans ((KeepsOthers.setCell _ _ _).from _),⟨⟨by rw [World.size_setCell]; exact h.kp.kp.size,fun k hk h1 h2=>(Below.heap_setCell X ⟨g,i,none⟩ v k (by show k≠g; omega)).trans (h.kp.kp.block k hk h1 h2)⟩,h.kp.hb.setCell (p:=⟨g,i,none⟩) (by show b0≤g; omega) _⟩,
  h.ko.far (p:=⟨g,i,none⟩) hne.1 _,h.kn.far (p:=⟨g,i,none⟩) hne.2.1 _,h.ks.far (p:=⟨g,i,none⟩) hne.2.2.1 _,h.kl.far (p:=⟨g,i,none⟩) hne.2.2.2 _,by rw [World.size_setCell]; exact h.sB⟩
end
section
variable {b0 B go gn gs gl:Nat} {Wb X:World} {u:V6} {n:Nat} {s:SG} {a b:Int}
theorem keeps6 (w:World) (g:Nat) (x y z p q r:Value):KeepsOthers w ((((((w.setCell ⟨g,0,none⟩ x).setCell ⟨g,1,none⟩ y).setCell ⟨g,2,none⟩ z).setCell ⟨g,3,none⟩ p).setCell ⟨g,4,none⟩ q).setCell ⟨g,5,none⟩ r):=
 (((((KeepsOthers.setCell _ _ _).trans (KeepsOthers.setCell _ _ _)).trans (KeepsOthers.setCell _ _ _)).trans (KeepsOthers.setCell _ _ _)).trans (KeepsOthers.setCell _ _ _)).trans (KeepsOthers.setCell _ _ _)
theorem OvX.fin (h:OvX b0 B go gn gs gl Wb X u n s a b) (l1:b0≤go) (l2:b0≤gn) (hne:go≠gn) (d:V6) (m:Int) :
  BlkV ((((((X.setCell ⟨go,0,none⟩ (.int .i64 d.l0)).setCell ⟨go,1,none⟩ (.int .i64 d.h0)).setCell ⟨go,2,none⟩ (.int .i64 d.l1)).setCell ⟨go,3,none⟩ (.int .i64 d.h1)).setCell ⟨go,4,none⟩ (.int .i64 d.l2)).setCell ⟨go,5,none⟩ (.int .i64 d.h2)) gn 3 #[.int .i64 n] ∧
  KeepsFrom B Wb (((((((X.setCell ⟨go,0,none⟩ (.int .i64 d.l0)).setCell ⟨go,1,none⟩ (.int .i64 d.h0)).setCell ⟨go,2,none⟩ (.int .i64 d.l1)).setCell ⟨go,3,none⟩ (.int .i64 d.h1)).setCell ⟨go,4,none⟩ (.int .i64 d.l2)).setCell ⟨go,5,none⟩ (.int .i64 d.h2)).setCell ⟨gn,0,none⟩ (.int .i64 m)) ∧
  KpO b0 B go gn Wb (((((((X.setCell ⟨go,0,none⟩ (.int .i64 d.l0)).setCell ⟨go,1,none⟩ (.int .i64 d.h0)).setCell ⟨go,2,none⟩ (.int .i64 d.l1)).setCell ⟨go,3,none⟩ (.int .i64 d.h1)).setCell ⟨go,4,none⟩ (.int .i64 d.l2)).setCell ⟨go,5,none⟩ (.int .i64 d.h2)).setCell ⟨gn,0,none⟩ (.int .i64 m)) ∧
  BlkV (((((((X.setCell ⟨go,0,none⟩ (.int .i64 d.l0)).setCell ⟨go,1,none⟩ (.int .i64 d.h0)).setCell ⟨go,2,none⟩ (.int .i64 d.l1)).setCell ⟨go,3,none⟩ (.int .i64 d.h1)).setCell ⟨go,4,none⟩ (.int .i64 d.l2)).setCell ⟨go,5,none⟩ (.int .i64 d.h2)).setCell ⟨gn,0,none⟩ (.int .i64 m)) go 39 #[.int .i64 d.l0,.int .i64 d.h0,.int .i64 d.l1,.int .i64 d.h1,.int .i64 d.l2,.int .i64 d.h2] ∧
  BlkV (((((((X.setCell ⟨go,0,none⟩ (.int .i64 d.l0)).setCell ⟨go,1,none⟩ (.int .i64 d.h0)).setCell ⟨go,2,none⟩ (.int .i64 d.l1)).setCell ⟨go,3,none⟩ (.int .i64 d.h1)).setCell ⟨go,4,none⟩ (.int .i64 d.l2)).setCell ⟨go,5,none⟩ (.int .i64 d.h2)).setCell ⟨gn,0,none⟩ (.int .i64 m)) gn 3 #[.int .i64 m]:=by
 have kn6:=(((((h.kn.far (p:=⟨go,0,none⟩) (Ne.symm hne) (.int .i64 d.l0)).far (p:=⟨go,1,none⟩) (Ne.symm hne) (.int .i64 d.h0)).far (p:=⟨go,2,none⟩) (Ne.symm hne) (.int .i64 d.l1)).far (p:=⟨go,3,none⟩) (Ne.symm hne) (.int .i64 d.h1)).far (p:=⟨go,4,none⟩) (Ne.symm hne) (.int .i64 d.l2)).far (p:=⟨go,5,none⟩) (Ne.symm hne) (.int .i64 d.h2)
 exact ⟨kn6,h.kf.trans (((keeps6 _ _ _ _ _ _ _ _).trans (KeepsOthers.setCell _ _ _)).from _),⟨((((((h.kp.kp.set1 _ _).set1 _ _).set1 _ _).set1 _ _).set1 _ _).set1 _ _).set2 _ _,(q1d h.kp.hb l1 _ _ _ _ _ _).setCell (p:=⟨gn,0,none⟩) l2 _⟩,
  (h.ko.put6 _ _ _ _ _ _).far (p:=⟨gn,0,none⟩) hne _,kn6.put 0 _ rfl⟩
end
def VH (lo hi:Nat→Int):Array Value:=#[.int .i64 (lo 0),.int .i64 (hi 0),.int .i64 (lo 1),.int .i64 (hi 1),.int .i64 (lo 2),.int .i64 (hi 2)]
def upI (f:Nat→Int) (k:Nat) (x:Int):Nat→Int:=fun j=>if j=k then x else f j
theorem VH_of (v:V6):(#[.int .i64 v.l0,.int .i64 v.h0,.int .i64 v.l1,.int .i64 v.h1,.int .i64 v.l2,.int .i64 v.h2]:Array Value)=VH (lo6 v) (hi6 v):=rfl
theorem VH_cong {lo hi:Nat→Int} {v:V6} (h:∀ j,j < 3→lo j=lo6 v j∧hi j=hi6 v j):VH lo hi=#[.int .i64 v.l0,.int .i64 v.h0,.int .i64 v.l1,.int .i64 v.h1,.int .i64 v.l2,.int .i64 v.h2]:=by
 rw [VH_of];unfold VH;rw [(h 0 (by omega)).1,(h 0 (by omega)).2,(h 1 (by omega)).1,(h 1 (by omega)).2,(h 2 (by omega)).1,(h 2 (by omega)).2]
theorem VH_at (lo hi:Nat→Int) {k:Nat} (hk:k < 3):(VH lo hi)[k * 2]? = some (.int .i64 (lo k))∧(VH lo hi)[k * 2+1]? = some (.int .i64 (hi k)):=by
 obtain rfl | rfl | rfl:k=0∨k=1∨k=2:=by omega
 all_goals exact ⟨rfl,rfl⟩
theorem VH_lo (lo hi:Nat→Int) {k:Nat} (hk:k < 3) (x:Int):(VH lo hi).setIfInBounds (k * 2) (.int .i64 x)=VH (upI lo k x) hi:=by
 obtain rfl | rfl | rfl:k=0∨k=1∨k=2:=by omega
 all_goals rfl
theorem VH_hi (lo hi:Nat→Int) {k:Nat} (hk:k < 3) (x:Int):(VH lo hi).setIfInBounds (k * 2+1) (.int .i64 x)=VH lo (upI hi k x):=by
 obtain rfl | rfl | rfl:k=0∨k=1∨k=2:=by omega
 all_goals rfl
theorem upI_at (f:Nat→Int) (k:Nat) (x:Int):upI f k x k=x:=if_pos rfl
theorem upI_ne (f:Nat→Int) {k j:Nat} (x:Int) (h:j≠k):upI f k x j=f j:=if_neg h
theorem mg_at (s:SG) (f t:Int) (u:V6) (n:Nat) {k:Nat} (hk:k < 3) :
  lo6 (if 0 < n then mgV (ovS s f t) u else ovS s f t) k=(if 0 < n then min (lo6 (plV s (ovM s f t)) k - ovW s (s.l k) f t) (lo6 u k) else lo6 (plV s (ovM s f t)) k - ovW s (s.l k) f t) ∧
  hi6 (if 0 < n then mgV (ovS s f t) u else ovS s f t) k=(if 0 < n then max (hi6 (plV s (ovM s f t)) k+ovW s (s.l k) f t) (hi6 u k) else hi6 (plV s (ovM s f t)) k+ovW s (s.l k) f t):=by
 obtain rfl | rfl | rfl:k=0∨k=1∨k=2:=by omega
 all_goals (split <;> exact ⟨rfl,rfl⟩)
theorem okI6 {v:V6} (h:OkI v.l0 v.h0∧OkI v.l1 v.h1∧OkI v.l2 v.h2) {k:Nat} (hk:k < 3):OkI (lo6 v k) (hi6 v k):=by
 obtain rfl | rfl | rfl:k=0∨k=1∨k=2:=by omega
 ·exact h.1
 ·exact h.2.1
 ·exact h.2.2
theorem eover_any (bs:List BG) (A:Option Addr) (c B:Nat) (i f t:Int) (w:World) (hs:SlB w B A bs c) (hg:grE bs=false) :
  Calls Tryz.prog 79 #[.agg #[.slice A bs.length c],.int .i64 i,.int .i64 f,.int .i64 t] w fun e w'=>e=.returned (.tuple #[.agg #[.int .i64 (ovE bs i f t).1.l0,.int .i64 (ovE bs i f t).1.h0,.int .i64 (ovE bs i f t).1.l1,.int .i64 (ovE bs i f t).1.h1,.int .i64 (ovE bs i f t).1.l2,.int .i64 (ovE bs i f t).1.h2],.int .i64 (ovE bs i f t).2])∧Below w.heap.size w w':=by
 have S:=lh hs;clear hs;by_cases h0:hasE bs i=0
 ·have OB:=lh (OkB.get S.out i);obtain ⟨hc0,hi0⟩:=hasE_zero h0;have hgv:=getV_ok h0 hi0;have hmem:getV bs i∈bs:=(by rw [hgv]; exact List.getElem_mem _);have OS:=lh (fun s (h:s∈(getV bs i).ss)=>ok_seg hg hc0 hmem h)
  have hne:0 < (getV bs i).ss.length:=by
   obtain ⟨-,-,h3⟩:=chkE_ok hc0;rw [hgv];exact (h3.b _ (by omega)).ne
  clear hgv hmem hc0 hi0;have E0:=lh (ovE_good (f:=f) (t:=t) h0);obtain ⟨R,hR⟩:∃ R,R=ovE bs i f t:=⟨_,rfl⟩;rw [← hR] at E0 ⊢;clear hR;by_cases hft:t < f
  ·have tf:decide (t < f)=true:=decide_eq_true hft;have E:=lh (E0.out.trans (if_pos hft));clear E0 OS;go_enter Tryz.func79,Tryz.ntmps79
   go_wp2_with (fail)
   generalize hwz:(w.alloc (.cells #[.slice A bs.length c] 24)).alloc (.cells #[.int .i64 0,.int .i64 0,.int .i64 0,.int .i64 0,.int .i64 0,.int .i64 0] 39)=wz at *;have KE:Hid (BlkV wz w.heap.size 24 #[.slice A bs.length c]):=(by rw [← hwz]; exact (BlkV.fresh rfl _ _).alloc _);have KR:Hid (BlkV wz (w.heap.size+1) 39 #[.int .i64 0,.int .i64 0,.int .i64 0,.int .i64 0,.int .i64 0,.int .i64 0]):=(by rw [← hwz]; exact BlkV.fresh (by simp) _ _);have HB:Hid (Below w.heap.size w wz):=(by rw [← hwz]; exact q0a (blw1 _ _) (blw1 _ _));clear hwz;refine (eget_any bs A c B i wz (S.out.below HB.out)).mono ?_;rintro e w1 ⟨rfl,hb⟩;replace KE:=lh (KE.out.keep hb);replace KR:=lh (KR.out.keep hb);replace HB:=lh (q0a HB.out hb);clear hb;rw [h0];generalize getV bs i=y at *;clear h0;go_upto_region 2 with fail
   generalize hwx:w1.alloc (.cells #[.string ⟨y.nm.toArray⟩,.int .i64 y.gm,.int .i64 y.rd,.slice y.A y.ss.length y.c] 92)=wx at *;have KY:Hid (BlkV wx w1.heap.size 92 #[.string ⟨y.nm.toArray⟩,.int .i64 y.gm,.int .i64 y.rd,.slice y.A y.ss.length y.c]):=(by rw [← hwx]; exact BlkV.fresh rfl _ _);replace KR:Hid (BlkV wx (w.heap.size+1) 39 #[.int .i64 0,.int .i64 0,.int .i64 0,.int .i64 0,.int .i64 0,.int .i64 0]):=(by rw [← hwx]; exact KR.out.alloc _);replace HB:Hid (Below w.heap.size w wx):=(by rw [← hwx]; exact q0a HB.out (blw1 _ _));have hgy:=HB.out.size;skip;clear hwx;have r0:=KR.out.at_ 0 rfl;have r1:=KR.out.at_ 1 rfl;have r2:=KR.out.at_ 2 rfl;have r3:=KR.out.at_ 3 rfl;have r4:=KR.out.at_ 4 rfl;have r5:=KR.out.at_ 5 rfl;have fr0:=KR.out.frozen 0;have fr1:=KR.out.frozen 1;have fr2:=KR.out.frozen 2;have fr3:=KR.out.frozen 3;have fr4:=KR.out.frozen 4;have fr5:=KR.out.frozen 5;go_wp2
   exact bodyPost_ret (v:=.tuple #[.agg #[.int .i64 0,.int .i64 0,.int .i64 0,.int .i64 0,.int .i64 0,.int .i64 0],.int .i64 2]) (by simp [results,Tryz.results79,go_sem,r0,r1,r2,r3,r4,r5]) rfl ⟨by rw [E.out] <;> rfl,q1d HB.out (Nat.le_succ _) _ _ _ _ _ _⟩
  ·have tf:decide (t < f)=false:=decide_eq_false hft;replace E0:=lh (E0.out.trans (if_neg hft));obtain ⟨y,hy⟩:∃ y,y=getV bs i:=⟨_,rfl⟩;rw [← hy] at E0 OB OS;have hne':0 < y.ss.length:=(by rw [hy]; exact hne);have EO:outT y.ss f t=(decide (f < (y.ss[0]'hne').F) || decide ((y.ss[y.ss.length - 1]'(by omega)).T < t)):=outT_out hne';have hlen:y.ss.length≤4398046511104:=OB.out.sl.len;obtain ⟨b0,o0,eA,-,pF,-,-,-,-,-⟩:=OB.out.sl.at_ hne';obtain ⟨b0',o0',eA',-,-,pT,-,-,-,-⟩:=OB.out.sl.at_ (k:=y.ss.length - 1) (by omega);rw [eA] at eA';cases eA'
   simp only [Nat.zero_mul,Nat.add_zero] at pF;generalize (y.ss[0]'hne').F=F0 at *;generalize (y.ss[y.ss.length - 1]'_).T=T0 at *;by_cases ho:outT y.ss f t=true
   ·have E:=lh (E0.out.trans (if_pos ho));rw [ho] at EO;replace EO:=lh EO.symm;clear E0 OS ho;go_enter Tryz.func79,Tryz.ntmps79
    go_wp2_with (fail)
    generalize hwz:(w.alloc (.cells #[.slice A bs.length c] 24)).alloc (.cells #[.int .i64 0,.int .i64 0,.int .i64 0,.int .i64 0,.int .i64 0,.int .i64 0] 39)=wz at *;have KE:Hid (BlkV wz w.heap.size 24 #[.slice A bs.length c]):=(by rw [← hwz]; exact (BlkV.fresh rfl _ _).alloc _);have KR:Hid (BlkV wz (w.heap.size+1) 39 #[.int .i64 0,.int .i64 0,.int .i64 0,.int .i64 0,.int .i64 0,.int .i64 0]):=(by rw [← hwz]; exact BlkV.fresh (by simp) _ _);have HB:Hid (Below w.heap.size w wz):=(by rw [← hwz]; exact q0a (blw1 _ _) (blw1 _ _));clear hwz;refine (eget_any bs A c B i wz (S.out.below HB.out)).mono ?_;rintro e w1 ⟨rfl,hb⟩;replace KE:=lh (KE.out.keep hb);replace KR:=lh (KR.out.keep hb);replace HB:=lh (q0a HB.out hb);clear hb;rw [h0,← hy];clear h0 hne hy;dsimp only;rw [eA];go_upto_region 2 with fail
    generalize hwx:w1.alloc (.cells #[.string ⟨y.nm.toArray⟩,.int .i64 y.gm,.int .i64 y.rd,.slice (some ⟨b0,o0,none⟩) y.ss.length y.c] 92)=wx at *;have KY:Hid (BlkV wx w1.heap.size 92 #[.string ⟨y.nm.toArray⟩,.int .i64 y.gm,.int .i64 y.rd,.slice (some ⟨b0,o0,none⟩) y.ss.length y.c]):=(by rw [← hwx]; exact BlkV.fresh rfl _ _);replace KR:Hid (BlkV wx (w.heap.size+1) 39 #[.int .i64 0,.int .i64 0,.int .i64 0,.int .i64 0,.int .i64 0,.int .i64 0]):=(by rw [← hwx]; exact KR.out.alloc _);replace HB:Hid (Below w.heap.size w wx):=(by rw [← hwx]; exact q0a HB.out (blw1 _ _));have hgy:=HB.out.size;skip;clear hwx;have y0:=KY.out.at_ 0 rfl;have y1:=KY.out.at_ 1 rfl;have y2:=KY.out.at_ 2 rfl;have y3:=KY.out.at_ 3 rfl;have hln:IntKind.i64.wrap ((y.ss.length:Int) - 1)=((y.ss.length - 1:Nat):Int):=(by rw [IntKind.wrap_i64]; omega);replace pF:=q0b HB.out pF;replace pT:=q0b HB.out pT;by_cases h1:f < F0
    ·have t1:decide (f < F0)=true:=decide_eq_true h1;clear EO;have r0:=KR.out.at_ 0 rfl;have r1:=KR.out.at_ 1 rfl;have r2:=KR.out.at_ 2 rfl;have r3:=KR.out.at_ 3 rfl;have r4:=KR.out.at_ 4 rfl;have r5:=KR.out.at_ 5 rfl;have fr0:=KR.out.frozen 0;have fr1:=KR.out.frozen 1;have fr2:=KR.out.frozen 2;have fr3:=KR.out.frozen 3;have fr4:=KR.out.frozen 4;have fr5:=KR.out.frozen 5;go_wp2
     exact bodyPost_ret (v:=.tuple #[.agg #[.int .i64 0,.int .i64 0,.int .i64 0,.int .i64 0,.int .i64 0,.int .i64 0],.int .i64 16]) (by simp [results,Tryz.results79,go_sem,r0,r1,r2,r3,r4,r5]) rfl ⟨by rw [E.out] <;> rfl,q1d HB.out (Nat.le_succ _) _ _ _ _ _ _⟩
    ·have t1:decide (f < F0)=false:=decide_eq_false h1;have t2:decide (T0 < t)=true:=(by have h:=EO.out; rw [t1] at h; simpa using h);clear EO;have r0:=KR.out.at_ 0 rfl;have r1:=KR.out.at_ 1 rfl;have r2:=KR.out.at_ 2 rfl;have r3:=KR.out.at_ 3 rfl;have r4:=KR.out.at_ 4 rfl;have r5:=KR.out.at_ 5 rfl;have fr0:=KR.out.frozen 0;have fr1:=KR.out.frozen 1;have fr2:=KR.out.frozen 2;have fr3:=KR.out.frozen 3;have fr4:=KR.out.frozen 4;have fr5:=KR.out.frozen 5;go_wp2
     exact bodyPost_ret (v:=.tuple #[.agg #[.int .i64 0,.int .i64 0,.int .i64 0,.int .i64 0,.int .i64 0,.int .i64 0],.int .i64 16]) (by simp [results,Tryz.results79,go_sem,r0,r1,r2,r3,r4,r5]) rfl ⟨by rw [E.out] <;> rfl,q1d HB.out (Nat.le_succ _) _ _ _ _ _ _⟩
   ·replace E0:=lh ((E0.out.trans (if_neg ho)).trans (ovR_eq _ _ _))
    obtain ⟨t1,t2⟩:decide (f < F0)=false∧decide (T0 < t)=false:=by
     have:outT y.ss f t=false:=by cases h:outT y.ss f t with | true=>exact absurd h ho | false=>rfl
     rw [EO] at this;exact Bool.or_eq_false_iff.1 this
    clear EO ho;refine (callsIn_wide (n:=5)).1 ?_;refine callsIn_of_wp_marks Tryz.func79 rfl trivial ?_ rfl;refine wpIn_wide.2 ?_;simp only [Tryz.ntmps79,List.size_toArray,List.length_cons,List.length_nil,Nat.reduceAdd,Nat.reduceSub,Array.replicate_succ,Array.replicate_zero,List.push_toArray,List.append_toArray,List.nil_append,List.cons_append];go_wp2_with (fail)
    generalize hwz:(w.alloc (.cells #[.slice A bs.length c] 24)).alloc (.cells #[.int .i64 0,.int .i64 0,.int .i64 0,.int .i64 0,.int .i64 0,.int .i64 0] 39)=wz at *;have KE:Hid (BlkV wz w.heap.size 24 #[.slice A bs.length c]):=(by rw [← hwz]; exact (BlkV.fresh rfl _ _).alloc _);have KR:Hid (BlkV wz (w.heap.size+1) 39 #[.int .i64 0,.int .i64 0,.int .i64 0,.int .i64 0,.int .i64 0,.int .i64 0]):=(by rw [← hwz]; exact BlkV.fresh (by simp) _ _);have HB:Hid (Below w.heap.size w wz):=(by rw [← hwz]; exact q0a (blw1 _ _) (blw1 _ _));clear hwz;refine (eget_any bs A c B i wz (S.out.below HB.out)).mono ?_;rintro e w1 ⟨rfl,hb⟩;replace KE:=lh (KE.out.keep hb);replace KR:=lh (KR.out.keep hb);replace HB:=lh (q0a HB.out hb);clear hb;rw [h0,← hy];clear h0 hne hy;dsimp only;rw [eA];go_upto_region 2 with fail
    generalize hwx:w1.alloc (.cells #[.string ⟨y.nm.toArray⟩,.int .i64 y.gm,.int .i64 y.rd,.slice (some ⟨b0,o0,none⟩) y.ss.length y.c] 92)=wx at *;have KY:Hid (BlkV wx w1.heap.size 92 #[.string ⟨y.nm.toArray⟩,.int .i64 y.gm,.int .i64 y.rd,.slice (some ⟨b0,o0,none⟩) y.ss.length y.c]):=(by rw [← hwx]; exact BlkV.fresh rfl _ _);replace KR:Hid (BlkV wx (w.heap.size+1) 39 #[.int .i64 0,.int .i64 0,.int .i64 0,.int .i64 0,.int .i64 0,.int .i64 0]):=(by rw [← hwx]; exact KR.out.alloc _);replace HB:Hid (Below w.heap.size w wx):=(by rw [← hwx]; exact q0a HB.out (blw1 _ _));have hgy:=HB.out.size;skip;clear hwx;have y0:=KY.out.at_ 0 rfl;have y1:=KY.out.at_ 1 rfl;have y2:=KY.out.at_ 2 rfl;have y3:=KY.out.at_ 3 rfl;have hln:IntKind.i64.wrap ((y.ss.length:Int) - 1)=((y.ss.length - 1:Nat):Int):=(by rw [IntKind.wrap_i64]; omega);replace pF:=q0b HB.out pF;replace pT:=q0b HB.out pT;go_upto_region 9 with fail
    have lgr0:=KR.out.lt;generalize hwq:wx.alloc (.cells #[.int .i64 0,.int .i64 0,.int .i64 0,.int .i64 0,.int .i64 0,.int .i64 0] 39)=wq at *;have hbq:Below wx.heap.size wx wq:=(by rw [← hwq]; exact blw1 _ _);have KO:Hid (BlkV wq wx.heap.size 39 #[.int .i64 0,.int .i64 0,.int .i64 0,.int .i64 0,.int .i64 0,.int .i64 0]):=(by rw [← hwq]; exact BlkV.fresh rfl _ _);replace KY:=lh (KY.out.keep hbq);replace KR:=lh (KR.out.keep hbq);replace HB:=lh (q0a HB.out hbq);clear hwq hbq y0 y1 y2 y3 t1 t2 tf hln pF pT;have lgo:=KO.out.lt;have lgy:=KY.out.lt;skip;go_cut [13] from 20 to 53 (fun s13 wc=>∃ gn,s13=.pointer (some ⟨gn,0,none⟩)∧wq.heap.size≤gn∧BlkV wc gn 3 #[.int .i64 0]∧Below wq.heap.size wq wc)
    case first=>(go_wp2_with fail; go_meet; exact ⟨_,rfl,Nat.le_refl _,BlkV.fresh rfl _ _,blw1 _ _⟩)
    case rest=>
     obtain ⟨gn,rfl,hgn,kn,hbc⟩:=hcut;replace KO:=lh (KO.out.keep hbc);replace KY:=lh (KY.out.keep hbc);replace KR:=lh (KR.out.keep hbc);replace HB:=lh (q0a HB.out hbc);have KN:=lh kn;clear kn hbc;have lgn:=KN.out.lt;have lgr:=KR.out.lt;have lgy2:=KY.out.lt;have y0:=KY.out.at_ 0 rfl;have y1:=KY.out.at_ 1 rfl;have y2:=KY.out.at_ 2 rfl;have y3:=KY.out.at_ 3 rfl;go_wp2_with fail
     have hd:=callsIn_wide.1 (during_in Fence.wide 5 trivial rfl y f t wc);rw [eA] at hd;refine hd.mono ?_;clear hd;rintro e w' ⟨rfl,rfl⟩;clear y0 y1 y2 y3 lgy2;go_wp2_with fail
     have Q1:Hid (BlkV (((wc.alloc (.cells #[.string ⟨y.nm.toArray⟩,.int .i64 y.gm,.int .i64 y.rd,.slice (some ⟨b0,o0,none⟩) y.ss.length y.c] 92)).alloc (.cells #[.int .i64 f] 2)).alloc (.cells #[.int .i64 t] 2)) wc.heap.size 92 #[.string ⟨y.nm.toArray⟩,.int .i64 y.gm,.int .i64 y.rd,.slice (some ⟨b0,o0,none⟩) y.ss.length y.c]):=((BlkV.fresh rfl _ _).alloc _).alloc _;have Q2:Hid ((((wc.alloc (.cells #[.string ⟨y.nm.toArray⟩,.int .i64 y.gm,.int .i64 y.rd,.slice (some ⟨b0,o0,none⟩) y.ss.length y.c] 92)).alloc (.cells #[.int .i64 f] 2)).alloc (.cells #[.int .i64 t] 2)).cell? ⟨wc.heap.size+2,0,none⟩=some (.int .i64 t)):=(BlkV.fresh (by simp) _ _).at_ 0 rfl;have Q3:Hid ((((wc.alloc (.cells #[.string ⟨y.nm.toArray⟩,.int .i64 y.gm,.int .i64 y.rd,.slice (some ⟨b0,o0,none⟩) y.ss.length y.c] 92)).alloc (.cells #[.int .i64 f] 2)).alloc (.cells #[.int .i64 t] 2)).cell? ⟨wc.heap.size+1,0,none⟩=some (.int .i64 f)):=((BlkV.fresh (by simp) _ _).alloc _).at_ 0 rfl;have hbW:Below wc.heap.size wc (((wc.alloc (.cells #[.string ⟨y.nm.toArray⟩,.int .i64 y.gm,.int .i64 y.rd,.slice (some ⟨b0,o0,none⟩) y.ss.length y.c] 92)).alloc (.cells #[.int .i64 f] 2)).alloc (.cells #[.int .i64 t] 2)):=q0a (q0a (blw1 _ _) (blw1 _ _)) (blw1 _ _);have hsW:(((wc.alloc (.cells #[.string ⟨y.nm.toArray⟩,.int .i64 y.gm,.int .i64 y.rd,.slice (some ⟨b0,o0,none⟩) y.ss.length y.c] 92)).alloc (.cells #[.int .i64 f] 2)).alloc (.cells #[.int .i64 t] 2)).heap.size=wc.heap.size+3:=(by simp);replace KO:=lh (KO.out.keep hbW);replace KN:=lh (KN.out.keep hbW);replace KR:=lh (KR.out.keep hbW);replace HB:=lh (q0a HB.out hbW);have hszc:w.heap.size≤wc.heap.size:=(by have:=lgr; omega);generalize hW0:((wc.alloc (.cells #[.string ⟨y.nm.toArray⟩,.int .i64 y.gm,.int .i64 y.rd,.slice (some ⟨b0,o0,none⟩) y.ss.length y.c] 92)).alloc (.cells #[.int .i64 f] 2)).alloc (.cells #[.int .i64 t] 2)=W0 at *;clear hW0 hbW KY KE;skip;skip;have hgo1:wx.heap.size < wq.heap.size:=lgo;generalize wx.heap.size=go at *;have hne:go≠gn:=(by omega);have hgo:go < wc.heap.size:=(by omega);refine (wpIn_wide (n:=5)).1 ?_
     refine wpIn_rangeFunc_ownH (α:=InS y f t) rfl (by omega) (gf:=166) (lb:=#[.pointer (some ⟨wc.heap.size,0,none⟩),.pointer (some ⟨wc.heap.size+2,0,none⟩),.pointer (some ⟨wc.heap.size+1,0,none⟩)]) rfl trivial (enters_of Tryz.func166 (by kernel_rfl) rfl)
      (during1_sub Fence.wide 4 trivial rfl (by omega) wc.heap.size (wc.heap.size+2) (wc.heap.size+1) y f t B W0 hlen (KpO w.heap.size W0.heap.size go gn) (KpO w.heap.size W0.heap.size go gn W0) (fun _ h=>KpO.of h (Nat.le_refl _) (by omega)) (fun _ _ h k=>h.trans k) (fun _ o h=>h.trans (KpO.of (blw1 _ o) h.kp.size (by omega)))
       (fun _ h=>⟨by rw [eA]; exact (h.kp.block wc.heap.size (by omega) (by omega) (by omega)).trans Q1.out,h.kp.cell Q2.out (by show wc.heap.size+2 < _; omega) (by show wc.heap.size+2≠_; omega) (by show wc.heap.size+2≠_; omega),h.kp.cell Q3.out (by show wc.heap.size+1 < _; omega) (by show wc.heap.size+1≠_; omega) (by show wc.heap.size+1≠_; omega),(OB.out.below (HB.out.trans h.hb)).sl⟩))
      (fun h k=>h.trans k) (fun W l o o' hl ho _ _=>KpO.putObj W l o o' hl (by omega) ho) (Below.refl _ _) (fun _=>rfl)
      (fun pre W=>OvI w.heap.size go gn W0 f t (pre.map Subtype.val) W) (fun _ _ _=>False) (fun pre W W' row h hg hr=>h.own (by omega) (by omega) (by omega) hg hr) (fun _ _ _ _ _ hs _ _=>hs) ⟨KpO.refl _ _ _ _ _,KO.out,KN.out⟩
      (fun s a' W=>∃ g h,a'={ tmps:=#[.agg #[.slice A bs.length c],.int .i64 i,.int .i64 f,.int .i64 t,.pointer (some ⟨w.heap.size,0,none⟩),undef,undef,undef,.pointer (some ⟨w.heap.size+1,0,none⟩),.int .i64 0,.pointer (some ⟨w1.heap.size,0,none⟩),.int .i64 0,.pointer (some ⟨go,0,none⟩),.pointer (some ⟨gn,0,none⟩),.pointer (some ⟨g,0,none⟩),.pointer (some ⟨h,0,none⟩),undef,undef,undef,undef,u20,u21,u22,u23,u24,u25,u26,u27,u28,u29,u30,u31,u32,u33,u34,u35,u36,u37,u38,u39,u40,u41,u42,u43,u44,u45,u46,u47,u48,u49,u50,u51,u52,u53,undef,.agg #[.string ⟨y.nm.toArray⟩,.int .i64 y.gm,.int .i64 y.rd,.slice (some ⟨b0,o0,none⟩) y.ss.length y.c],.int .i64 f,.int .i64 t,.func (.func 166) #[] #[.pointer (some ⟨wc.heap.size,0,none⟩),.pointer (some ⟨wc.heap.size+2,0,none⟩),.pointer (some ⟨wc.heap.size+1,0,none⟩)],.agg #[.int .i64 s.1.F,.int .i64 s.1.T,.slice s.1.A0 s.1.l0.length s.1.c0,.slice s.1.A1 s.1.l1.length s.1.c1,.slice s.1.A2 s.1.l2.length s.1.c2],.agg #[.int .i64 (max s.1.F f),.int .i64 (min s.1.T t)],undef,undef,undef,undef,undef,undef,undef,undef,undef,undef,undef,undef,undef,undef,undef,undef,undef,undef,undef,undef,undef,undef,undef,undef,undef,undef,undef,undef,undef,undef,undef,undef,undef,undef,undef,undef,undef,undef,undef,undef,undef,undef,undef,undef,undef,undef,undef,undef,undef,undef,undef,undef,undef,undef,undef,undef,undef,undef,undef,undef,undef,undef,undef,undef,undef,undef,undef,undef,undef,undef,undef,undef,undef,undef,undef,undef,undef,undef,undef,undef,undef],defers:=[] } ∧ BlkV W g 95 #[.int .i64 s.1.F,.int .i64 s.1.T,.slice s.1.A0 s.1.l0.length s.1.c0,.slice s.1.A1 s.1.l1.length s.1.c1,.slice s.1.A2 s.1.l2.length s.1.c2]∧BlkV W h 203 #[.int .i64 (max s.1.F f),.int .i64 (min s.1.T t)]∧W0.heap.size≤g∧g < h)
      (fun s a' _ W W' row hh hg hr=>by obtain ⟨g,h,e,k1,k2,l1,l2⟩:=hh; exact ⟨g,h,e,blk_cells k1 hg hr,blk_cells k2 hg hr,l1,l2⟩) ?assign ?body ?done ?stop
     case assign=>
      rintro l pre s W K hI hK;simp only [encG];gi_wp2
      refine hK _ _ (((KeepsOthers.alloc W _).trans (KeepsOthers.alloc _ _)).from _) (KpO.of (q0a (blw1 _ _) (blw1 _ _)) hI.kp.kp.size (by omega)) (hI.keep (by omega) (q0a (blw1 _ _) (blw1 _ _))) ⟨W.heap.size,W.heap.size+1,rfl,(BlkV.fresh rfl _ _).alloc _,BlkV.fresh (by simp) _ _,hI.kp.kp.size,Nat.lt_succ_self _⟩
     case body=>
      rintro l pre ⟨s,hsm,hsr⟩ a' W hl hrec hI ⟨gs,gl,rfl,kgs,kgl,lgs,lgl⟩ hpl;dsimp only at kgs kgl ⊢;have OK:=OS.out s hsm;obtain ⟨p1,p2,p3,p4,p5,q0,q1,q2⟩:=seg_parts OK;obtain ⟨i1,i2,i3,i4,i5⟩:=ovM_in (f:=f) (t:=t) p1 (by omega) hsr;obtain ⟨a,ha⟩:∃ a,a=ovA s f:=⟨_,rfl⟩;obtain ⟨b,hb⟩:∃ b,b=ovB s t:=⟨_,rfl⟩;have hm:ovM s f t=a+(b - a) / 2:=(by unfold ovM; rw [← ha,← hb]);have hn:ovN s f t=b - a+1:=(by unfold ovN; rw [← ha,← hb]);rw [show max s.F f=a from ha.symm,show min s.T t=b from hb.symm] at kgl ⊢;rw [← ha] at i1 i2 i4;rw [← hb] at i2 i3 i5;rw [hm] at i4 i5;have hd6:=ovV_next f t (pre.map Subtype.val) s;rw [List.length_map] at hd6;have MG:=lh (fun k (hk:k < 3)=>mg_at s f t (ovV f t (pre.map Subtype.val)) pre.length hk);rw [← hd6] at MG;have hkn:=hI.kn;rw [List.length_map] at hkn;have X0:Hid (OvX w.heap.size W0.heap.size go gn gs gl W W (ovV f t (pre.map Subtype.val)) pre.length s a b):=⟨KeepsFrom.refl _ _,KpO.refl _ _ _ _ _,hI.ko,hkn,kgs,kgl,hI.kp.kp.size⟩;have HBW:Hid (Below w.heap.size w W):=HB.out.trans hI.kp.hb;have HKW:=lh hI.kp;have OM:Hid (∀ V,Below w.heap.size w V→OkS V B s):=fun V h=>((OB.out.below h).sl).all s hsm
      have CP:Hid (∀ V,Below w.heap.size w V→Calls Tryz.prog 131 #[.agg #[.int .i64 s.F,.int .i64 s.T,.slice s.A0 s.l0.length s.c0,.slice s.A1 s.l1.length s.c1,.slice s.A2 s.l2.length s.c2],.int .i64 (a+(b - a) / 2)] V fun e w'=>e=.returned (.agg #[.int .i64 (plV s (ovM s f t)).l0,.int .i64 (plV s (ovM s f t)).h0,.int .i64 (plV s (ovM s f t)).l1,.int .i64 (plV s (ovM s f t)).h1,.int .i64 (plV s (ovM s f t)).l2,.int .i64 (plV s (ovM s f t)).h2])∧Below V.heap.size V w'):=fun V h=>by
       have z:=eplace_any s (ovM s f t) B V (OM.out V h) OK (by omega) (by omega);rw [hm] at z ⊢;exact z
      have CW:Hid (∀ k:Nat,k < 3→∃ Al lk cl,(∀ W,(Instr.index 93 (.agg #[.slice s.A0 s.l0.length s.c0,.slice s.A1 s.l1.length s.c1,.slice s.A2 s.l2.length s.c2]) (.int .i64 k)).run Tryz.prog W=.ok (.slice Al lk cl) W)∧0≤ovW s (s.l k) f t∧ovW s (s.l k) f t≤337769972052787200∧∀ V,Below w.heap.size w V→Calls Tryz.prog 132 #[.slice Al lk cl,.int .i64 (b - a+1),.int .i64 (s.T - s.F)] V fun e w'=>e=.returned (.int .i64 (ovW s (s.l k) f t))∧Below V.heap.size V w'):=fun k hk=>by
       have nn:0≤b - a+1∧b - a+1≤2 * (s.T - s.F):=(by omega);have e6:∀ l,ovW s l f t=swI l (b - a+1) (s.T - s.F):=fun l=>by unfold ovW; rw [hn]
       obtain rfl | rfl | rfl:k=0∨k=1∨k=2:=by omega
       ·exact ⟨s.A0,s.l0.length,s.c0,fun W=>by rfl,by rw [e6]; exact (swI_bd q0 OK.n0 nn.1 nn.2 (by omega)).1,by rw [e6]; exact (swI_bd q0 OK.n0 nn.1 nn.2 (by omega)).2,fun V h=>by rw [e6]; exact esway_any s.l0 s.A0 s.c0 B _ _ V (OM.out V h).i0 q0 OK.n0 nn.1 nn.2 (by omega) (by omega)⟩
       ·exact ⟨s.A1,s.l1.length,s.c1,fun W=>by rfl,by rw [e6]; exact (swI_bd q1 OK.n1 nn.1 nn.2 (by omega)).1,by rw [e6]; exact (swI_bd q1 OK.n1 nn.1 nn.2 (by omega)).2,fun V h=>by rw [e6]; exact esway_any s.l1 s.A1 s.c1 B _ _ V (OM.out V h).i1 q1 OK.n1 nn.1 nn.2 (by omega) (by omega)⟩
       ·exact ⟨s.A2,s.l2.length,s.c2,fun W=>by rfl,by rw [e6]; exact (swI_bd q2 OK.n2 nn.1 nn.2 (by omega)).1,by rw [e6]; exact (swI_bd q2 OK.n2 nn.1 nn.2 (by omega)).2,fun V h=>by rw [e6]; exact esway_any s.l2 s.A2 s.c2 B _ _ V (OM.out V h).i2 q2 OK.n2 nn.1 nn.2 (by omega) (by omega)⟩
      have OP:=lh (fun k (hk:k < 3)=>okI6 ⟨(plV_okV s (ovM s f t)).a,(plV_okV s (ovM s f t)).b,(plV_okV s (ovM s f t)).c⟩ hk);have hIp:=hI.ko;clear hI hkn kgs kgl hm hn ha hb q0 q1 q2;replace hd6:=lh hd6;generalize plV s (ovM s f t)=p at *;obtain ⟨u,hu⟩:∃ u,u=ovV f t (pre.map Subtype.val):=⟨_,rfl⟩;rw [← hu] at X0 MG;obtain ⟨d,hdd⟩:∃ d,d=ovV f t (pre.map Subtype.val ++ [s]):=⟨_,rfl⟩;rw [← hdd] at MG;replace hdd:=lh hdd;clear hu hd6;obtain ⟨n,hn⟩:∃ n,n=pre.length:=⟨_,rfl⟩;rw [← hn] at X0 MG;replace hn:=lh hn;have w1' : -9223372036854775808≤b - a∧b - a≤9223372036854775807:=(by omega);have w2:(b - a).tdiv 2=(b - a) / 2:=Int.tdiv_eq_ediv_of_nonneg (by omega);have w3 : -9223372036854775808≤a+(b - a) / 2∧a+(b - a) / 2≤9223372036854775807:=(by omega);have w4 : -9223372036854775808≤(b - a) / 2∧(b - a) / 2≤9223372036854775807:=(by omega);have k0:=X0.out.ks.at_ 0 rfl;have k1:=X0.out.ks.at_ 1 rfl;have k2:=X0.out.ks.at_ 2 rfl;have k3:=X0.out.ks.at_ 3 rfl;have k4:=X0.out.ks.at_ 4 rfl;have l0:=X0.out.kl.at_ 0 rfl;have l1:=X0.out.kl.at_ 1 rfl;gi_wp2_with fail
      refine ⟨trivial,?_⟩;refine (CallsIn.inRound l (callsIn_wide.2 (CP.out _ HBW.out))).mono ?_;rintro e v1 ⟨rfl,hb⟩;dsimp only;have X1:=lh (X0.out.call (by omega) hb);clear k0 k1 k2 k3 k4 l0 l1 hb CP X0;have k2:=X1.out.ks.at_ 2 rfl;have k3:=X1.out.ks.at_ 3 rfl;have k4:=X1.out.ks.at_ 4 rfl;have hlk:=X1.out.ks.lt;gi_wp2
      generalize hv2:v1.alloc (.cells #[.int .i64 p.l0,.int .i64 p.h0,.int .i64 p.l1,.int .i64 p.h1,.int .i64 p.l2,.int .i64 p.h2] 39)=v2 at *;have hbv:Below v1.heap.size v1 v2:=(by rw [← hv2]; exact blw1 _ _);have KV:Hid (BlkV v2 v1.heap.size 39 (VH (lo6 p) (hi6 p))):=(by rw [← hv2]; exact BlkV.fresh rfl _ _);have X2:=lh (X1.out.call (by omega) hbv);have g1:=X1.out.ko.lt;have g2:=X1.out.kn.lt;have g3:=X1.out.ks.lt;have g4:=X1.out.kl.lt;have g5:=X1.out.sB;clear hv2 hbv k2 k3 k4 hlk X1;have hgv:go≠v1.heap.size∧gn≠v1.heap.size∧gs≠v1.heap.size∧gl≠v1.heap.size:=(by omega);clear g1 g2 g3 g4;generalize v1.heap.size=gv at *;gi_loopw [74] (fun s74 wr=>∃ (k:Nat) (lo hi:Nat→Int),k≤3∧s74=.int .i64 k∧OvX w.heap.size W0.heap.size go gn gs gl W wr u n s a b∧BlkV wr gv 39 (VH lo hi)∧∀ j,j < 3→lo j=(if j < k then lo6 d j else lo6 p j)∧hi j=(if j < k then hi6 d j else hi6 p j)) (fun v _=>3 - (intOf v).toNat)
      case atStart=>exact ⟨0,_,_,by omega,rfl,X2.out,KV.out,fun j _=>⟨rfl,rfl⟩⟩
      case round=>
       clear X2 KV;obtain ⟨k,lo,hi,hk,rfl,hX,hV,hL⟩:=hrel;have X3:=lh hX;have KV:=lh hV;clear hX hV;by_cases hk3:k < 3
       ·have tk':decide ((k:Int) < 3)=true:=decide_eq_true (by omega);obtain ⟨Al,lk,cl,hidx,ow0,ow1,CWk⟩:=CW.out k hk3;replace CWk:=lh CWk;obtain ⟨m1,m2⟩:=MG.out k hk3;obtain ⟨o1,o2,o3⟩:=OP.out k hk3;have e1:lo k=lo6 p k:=(by rw [(hL k hk3).1,if_neg (Nat.lt_irrefl k)]);have e2:hi k=hi6 p k:=(by rw [(hL k hk3).2,if_neg (Nat.lt_irrefl k)]);rw [← e1] at m1 o1 o2;rw [← e2] at m2 o1 o3;skip;generalize ovW s (s.l k) f t=v at *;have HL:=lh hL;replace m1:=lh m1;replace m2:=lh m2;clear hL e1 e2;have w5 : -9223372036854775808≤b - a+1∧b - a+1≤9223372036854775807:=(by omega);have w6 : -9223372036854775808≤s.T - s.F∧s.T - s.F≤9223372036854775807:=(by omega);have w7:IntKind.i64.wrap (lo k - v)=lo k - v:=(by rw [IntKind.wrap_i64]; omega);have w8:IntKind.i64.wrap (hi k+v)=hi k+v:=(by rw [IntKind.wrap_i64]; omega);have i0:(0:Int)≤(k:Int):=(by omega);have i3':(k:Int) < 3:=(by omega);have k0:=X3.out.ks.at_ 0 rfl;have k1:=X3.out.ks.at_ 1 rfl;have l0:=X3.out.kl.at_ 0 rfl;have l1:=X3.out.kl.at_ 1 rfl;gi_wp2_with fail
        refine ⟨trivial,?_⟩;refine (CallsIn.inRound l (callsIn_wide.2 (CWk.out _ (HBW.out.trans X3.out.kp.hb)))).mono ?_;rintro e v3 ⟨rfl,hb⟩;dsimp only;have X4:=lh (X3.out.call (by omega) hb);have KV4:=lh (KV.out.keep hb);clear k0 k1 l0 l1 hb X3 KV CWk;have c0:=KV4.out.at_ _ (VH_at lo hi hk3).1;have c1:=KV4.out.at_ _ (VH_at lo hi hk3).2;have f0:=KV4.out.frozen (k * 2);have f1:=KV4.out.frozen (k * 2+1);have KA:=lh (KV4.out.put (k * 2) (.int .i64 (lo k - v)) (VH_lo lo hi hk3 _));have KB:=lh (KA.out.put (k * 2+1) (.int .i64 (hi k+v)) (VH_hi _ hi hk3 _));have d0:=KA.out.at_ _ (VH_at _ hi hk3).2;have hgB:W0.heap.size≤gv:=(by omega);have XA:=lh ((X4.out.far (by omega) hgB hgv (k * 2) (.int .i64 (lo k - v))).far (by omega) hgB hgv (k * 2+1) (.int .i64 (hi k+v)));have n0:=XA.out.kn.at_ 0 rfl;clear KA X4 KV4;by_cases hn0:0 < n
        ·have tn:decide ((0:Int) < (n:Int))=true:=decide_eq_true (by omega);have tn':decide (0 < n)=true:=decide_eq_true hn0;gi_wp2_with fail
         generalize hv4:(v3.setCell ⟨gv,k * 2,none⟩ (.int .i64 (lo k - v))).setCell ⟨gv,k * 2+1,none⟩ (.int .i64 (hi k+v))=v4 at *;clear hv4 c0 c1 d0 n0 f0 f1;have XD:=lh (XA.out.call (by omega) (Below.refl _ _).drew);have KD:=lh (KB.out.keep (Below.refl _ _).drew);have KU:Hid (BlkV v4.drew go 39 (VH (lo6 u) (hi6 u))):=XD.out.ko;have q0:=KU.out.at_ _ (VH_at (lo6 u) (hi6 u) hk3).1;have q1:=KU.out.at_ _ (VH_at (lo6 u) (hi6 u) hk3).2;clear XA KB;refine q1g (S:=fun w'=>w'.cell? ⟨go,k * 2,none⟩=some (.int .i64 (lo6 u k))∧w'.cell? ⟨go,k * 2+1,none⟩=some (.int .i64 (hi6 u k))) (by kernel_rfl) (by kernel_rfl) (fun ⟨_,_,h⟩=>h) ⟨q0,q1⟩ (fun hHeld=>?_);clear q0 q1 KU;generalize v4.drew=D at *;refine tk 0 (.int .i64 k) rfl ?_;(try simp only [Act.put,z0q,z1q,z3q,z4q,z5q]);refine tk 1 (.int .i64 k) rfl ?_;(try simp only [Act.put,z0q,z1q,z2q,z3q,z4q,z5q]);refine tk 2 (.int .i64 k) rfl ?_;(try simp only [Act.put,z0q,z1q,z2q,z3q,z4q,z5q]);refine tk 3 (.pointer (some ⟨gv,k * 2,none⟩)) rfl ?_;(try simp only [Act.put,z0q,z1q,z2q,z3q,z4q,z5q]);refine tk 4 (.pointer (some ⟨gv,k * 2,none⟩)) rfl ?_;(try simp only [Act.put,z0q,z1q,z2q,z3q,z4q,z5q]);refine tk 6 (.int .i64 k) rfl ?_;(try simp only [Act.put,z0q,z1q,z2q,z3q,z4q,z5q]);refine tk 7 (.pointer (some ⟨go,k * 2,none⟩)) rfl ?_;(try simp only [Act.put,z0q,z1q,z2q,z3q,z4q,z5q]);refine tk 8 (.pointer (some ⟨go,k * 2,none⟩)) rfl ?_;(try simp only [Act.put,z0q,z1q,z2q,z3q,z4q,z5q]);refine tk 9 (.int .i64 (lo6 u k)) rfl ?_;(try simp only [Act.put,z0q,z1q,z2q,z3q,z4q,z5q]);refine tk 11 (.int .i64 k) rfl ?_;(try simp only [Act.put,z0q,z1q,z2q,z3q,z4q,z5q]);refine tk 12 (.pointer (some ⟨gv,k * 2,none⟩)) rfl ?_;(try simp only [Act.put,z0q,z1q,z2q,z3q,z4q,z5q]);refine tk 13 (.pointer (some ⟨gv,k * 2+1,none⟩)) rfl ?_;(try simp only [Act.put,z0q,z1q,z2q,z3q,z4q,z5q]);refine tk 15 (.int .i64 k) rfl ?_;(try simp only [Act.put,z0q,z1q,z2q,z3q,z4q,z5q]);refine tk 16 (.pointer (some ⟨go,k * 2,none⟩)) rfl ?_;(try simp only [Act.put,z0q,z1q,z2q,z3q,z4q,z5q]);refine tk 17 (.pointer (some ⟨go,k * 2+1,none⟩)) rfl ?_;(try simp only [Act.put,z0q,z1q,z2q,z3q,z4q,z5q]);refine tk 18 (.int .i64 (hi6 u k)) rfl ?_;(try simp only [Act.put,z0q,z1q,z2q,z3q,z4q,z5q]);have c0:D.cell? ⟨gv,k * 2,none⟩=some (.int .i64 (lo k - v)):=(by have:=KD.out.at_ _ (VH_at _ _ hk3).1; rwa [upI_at] at this);have c1:D.cell? ⟨gv,k * 2+1,none⟩=some (.int .i64 (hi k+v)):=(by have:=KD.out.at_ _ (VH_at _ _ hk3).2; rwa [upI_at] at this);refine wpAnyH_ready (rs:=[5,14]) (by kernel_rfl) (by simp) ?_;refine AllReadyH.cons rfl (fun K hK=>?_) (AllReadyH.cons rfl (fun K hK=>?_) AllReadyH.nil)
         ·go_simp
          refine hK.out _ _ (hHeld) (fun hHeld2=>?_);clear hK K hHeld;have hHeld:=hHeld2;clear hHeld2;(try simp only [Act.put,z0q,z1q,z2q,z3q,z4q,z5q]);refine tk 10 (.int .i64 (min (lo k - v) (lo6 u k))) rfl ?_;(try simp only [Act.put,z0q,z1q,z2q,z3q,z4q,z5q]);refine wpAnyH_ready (rs:=[14]) (by kernel_rfl) (by simp) ?_;refine AllReadyH.cons rfl (fun K hK=>?_) AllReadyH.nil;go_simp
          refine hK.out _ _ (hHeld) (fun hHeld2=>?_);clear hK K hHeld;have hHeld:=hHeld2;clear hHeld2;(try simp only [Act.put,z0q,z1q,z2q,z3q,z4q,z5q]);refine tk 19 (.int .i64 (max (hi k+v) (hi6 u k))) rfl ?_;(try simp only [Act.put,z0q,z1q,z2q,z3q,z4q,z5q]);refine tk 20 (.pointer (some ⟨gv,k * 2,none⟩)) rfl ?_;(try simp only [Act.put,z0q,z1q,z2q,z3q,z4q,z5q]);refine tk 21 (.pointer (some ⟨gv,k * 2,none⟩)) rfl ?_;(try simp only [Act.put,z0q,z1q,z2q,z3q,z4q,z5q]);refine wpAnyH_ready (rs:=[22]) (by kernel_rfl) (by simp) ?_;refine AllReadyH.cons rfl (fun K hK=>?_) AllReadyH.nil;have X2:=lh (XD.out.far (by omega) hgB hgv (k * 2) (.int .i64 (min (lo k - v) (lo6 u k))));have K2:=lh (KD.out.put (k * 2) (.int .i64 (min (lo k - v) (lo6 u k))) (VH_lo _ _ hk3 _));have KU:Hid (BlkV (D.setCell ⟨gv,k * 2,none⟩ (.int .i64 (min (lo k - v) (lo6 u k)))) go 39 (VH (lo6 u) (hi6 u))):=X2.out.ko;have f0:=KD.out.frozen (k * 2);go_simp
          refine hK.out _ _ ⟨KU.out.at_ _ (VH_at (lo6 u) (hi6 u) hk3).1,KU.out.at_ _ (VH_at (lo6 u) (hi6 u) hk3).2⟩ (fun hHeld2=>?_);clear hK K hHeld;have hHeld:=hHeld2;clear hHeld2 c0 c1 f0 XD KD KU;(try simp only [Act.put,z0q,z1q,z2q,z3q,z4q,z5q]);refine tk 23 (.pointer (some ⟨gv,k * 2,none⟩)) rfl ?_;(try simp only [Act.put,z0q,z1q,z2q,z3q,z4q,z5q]);refine tk 24 (.pointer (some ⟨gv,k * 2+1,none⟩)) rfl ?_;(try simp only [Act.put,z0q,z1q,z2q,z3q,z4q,z5q]);refine wpAnyH_ready (rs:=[25]) (by kernel_rfl) (by simp) ?_;refine AllReadyH.cons rfl (fun K hK=>?_) AllReadyH.nil;have X3:=lh (X2.out.far (by omega) hgB hgv (k * 2+1) (.int .i64 (max (hi k+v) (hi6 u k))));have K3:=lh (K2.out.put (k * 2+1) (.int .i64 (max (hi k+v) (hi6 u k))) (VH_hi _ _ hk3 _));have KU:Hid (BlkV ((D.setCell ⟨gv,k * 2,none⟩ (.int .i64 (min (lo k - v) (lo6 u k)))).setCell ⟨gv,k * 2+1,none⟩ (.int .i64 (max (hi k+v) (hi6 u k)))) go 39 (VH (lo6 u) (hi6 u))):=X3.out.ko;have f0:=K2.out.frozen (k * 2+1);have c1:=K2.out.at_ _ (VH_at _ _ hk3).2;go_simp
          refine hK.out _ _ ⟨KU.out.at_ _ (VH_at (lo6 u) (hi6 u) hk3).1,KU.out.at_ _ (VH_at (lo6 u) (hi6 u) hk3).2⟩ (fun hHeld2=>?_);clear hK K hHeld;have hHeld:=hHeld2;clear hHeld2 c1 f0 X2 K2 KU;(try simp only [Act.put,z0q,z1q,z2q,z3q,z4q,z5q]);refine wpAnyH_done (by kernel_rfl) ?_ _;gi_wp2
          go_roundw
          case rel=>
           refine ⟨k+1,_,_,by omega,by go_num,X3.out,K3.out,fun j hj=>?_⟩;have h1:=m1.out;have h2:=m2.out;rw [if_pos hn0] at h1 h2;have h3:=HL.out j hj;by_cases hjk:j=k
           ·subst hjk; rw [upI_at,upI_at,if_pos (Nat.lt_succ_self _),if_pos (Nat.lt_succ_self _)]; exact ⟨h1.symm,h2.symm⟩
           ·rw [upI_ne _ _ hjk,upI_ne _ _ hjk,upI_ne _ _ hjk,upI_ne _ _ hjk,h3.1,h3.2];by_cases h4:j < k
            ·rw [if_pos h4,if_pos h4,if_pos (by omega),if_pos (by omega)]; exact ⟨rfl,rfl⟩
            ·rw [if_neg h4,if_neg h4,if_neg (by omega),if_neg (by omega)]; exact ⟨rfl,rfl⟩
          case measure=>simp [intOf]; omega
         ·go_simp
          refine hK.out _ _ (hHeld) (fun hHeld2=>?_);clear hK K hHeld;have hHeld:=hHeld2;clear hHeld2;(try simp only [Act.put,z0q,z1q,z2q,z3q,z4q,z5q]);refine tk 19 (.int .i64 (max (hi k+v) (hi6 u k))) rfl ?_;(try simp only [Act.put,z0q,z1q,z2q,z3q,z4q,z5q]);refine wpAnyH_ready (rs:=[5]) (by kernel_rfl) (by simp) ?_;refine AllReadyH.cons rfl (fun K hK=>?_) AllReadyH.nil;go_simp
          refine hK.out _ _ (hHeld) (fun hHeld2=>?_);clear hK K hHeld;have hHeld:=hHeld2;clear hHeld2;(try simp only [Act.put,z0q,z1q,z2q,z3q,z4q,z5q]);refine tk 10 (.int .i64 (min (lo k - v) (lo6 u k))) rfl ?_;(try simp only [Act.put,z0q,z1q,z2q,z3q,z4q,z5q]);refine tk 20 (.pointer (some ⟨gv,k * 2,none⟩)) rfl ?_;(try simp only [Act.put,z0q,z1q,z2q,z3q,z4q,z5q]);refine tk 21 (.pointer (some ⟨gv,k * 2,none⟩)) rfl ?_;(try simp only [Act.put,z0q,z1q,z2q,z3q,z4q,z5q]);refine wpAnyH_ready (rs:=[22]) (by kernel_rfl) (by simp) ?_;refine AllReadyH.cons rfl (fun K hK=>?_) AllReadyH.nil;have X2:=lh (XD.out.far (by omega) hgB hgv (k * 2) (.int .i64 (min (lo k - v) (lo6 u k))));have K2:=lh (KD.out.put (k * 2) (.int .i64 (min (lo k - v) (lo6 u k))) (VH_lo _ _ hk3 _));have KU:Hid (BlkV (D.setCell ⟨gv,k * 2,none⟩ (.int .i64 (min (lo k - v) (lo6 u k)))) go 39 (VH (lo6 u) (hi6 u))):=X2.out.ko;have f0:=KD.out.frozen (k * 2);go_simp
          refine hK.out _ _ ⟨KU.out.at_ _ (VH_at (lo6 u) (hi6 u) hk3).1,KU.out.at_ _ (VH_at (lo6 u) (hi6 u) hk3).2⟩ (fun hHeld2=>?_);clear hK K hHeld;have hHeld:=hHeld2;clear hHeld2 c0 c1 f0 XD KD KU;(try simp only [Act.put,z0q,z1q,z2q,z3q,z4q,z5q]);refine tk 23 (.pointer (some ⟨gv,k * 2,none⟩)) rfl ?_;(try simp only [Act.put,z0q,z1q,z2q,z3q,z4q,z5q]);refine tk 24 (.pointer (some ⟨gv,k * 2+1,none⟩)) rfl ?_;(try simp only [Act.put,z0q,z1q,z2q,z3q,z4q,z5q]);refine wpAnyH_ready (rs:=[25]) (by kernel_rfl) (by simp) ?_;refine AllReadyH.cons rfl (fun K hK=>?_) AllReadyH.nil;have X3:=lh (X2.out.far (by omega) hgB hgv (k * 2+1) (.int .i64 (max (hi k+v) (hi6 u k))));have K3:=lh (K2.out.put (k * 2+1) (.int .i64 (max (hi k+v) (hi6 u k))) (VH_hi _ _ hk3 _));have KU:Hid (BlkV ((D.setCell ⟨gv,k * 2,none⟩ (.int .i64 (min (lo k - v) (lo6 u k)))).setCell ⟨gv,k * 2+1,none⟩ (.int .i64 (max (hi k+v) (hi6 u k)))) go 39 (VH (lo6 u) (hi6 u))):=X3.out.ko;have f0:=K2.out.frozen (k * 2+1);have c1:=K2.out.at_ _ (VH_at _ _ hk3).2;go_simp
          refine hK.out _ _ ⟨KU.out.at_ _ (VH_at (lo6 u) (hi6 u) hk3).1,KU.out.at_ _ (VH_at (lo6 u) (hi6 u) hk3).2⟩ (fun hHeld2=>?_);clear hK K hHeld;have hHeld:=hHeld2;clear hHeld2 c1 f0 X2 K2 KU;(try simp only [Act.put,z0q,z1q,z2q,z3q,z4q,z5q]);refine wpAnyH_done (by kernel_rfl) ?_ _;gi_wp2
          go_roundw
          case rel=>
           refine ⟨k+1,_,_,by omega,by go_num,X3.out,K3.out,fun j hj=>?_⟩;have h1:=m1.out;have h2:=m2.out;rw [if_pos hn0] at h1 h2;have h3:=HL.out j hj;by_cases hjk:j=k
           ·subst hjk; rw [upI_at,upI_at,if_pos (Nat.lt_succ_self _),if_pos (Nat.lt_succ_self _)]; exact ⟨h1.symm,h2.symm⟩
           ·rw [upI_ne _ _ hjk,upI_ne _ _ hjk,upI_ne _ _ hjk,upI_ne _ _ hjk,h3.1,h3.2];by_cases h4:j < k
            ·rw [if_pos h4,if_pos h4,if_pos (by omega),if_pos (by omega)]; exact ⟨rfl,rfl⟩
            ·rw [if_neg h4,if_neg h4,if_neg (by omega),if_neg (by omega)]; exact ⟨rfl,rfl⟩
          case measure=>simp [intOf]; omega
        ·have tn:decide ((0:Int) < (n:Int))=false:=decide_eq_false (by omega);have tn':decide (0 < n)=false:=decide_eq_false hn0;gi_wp2
         go_roundw
         case rel=>
          refine ⟨k+1,_,_,by omega,by go_num,XA.out,KB.out,fun j hj=>?_⟩;have h1:=m1.out;have h2:=m2.out;rw [if_neg hn0] at h1 h2;have h3:=HL.out j hj;by_cases hjk:j=k
          ·subst hjk; rw [upI_at,upI_at,if_pos (Nat.lt_succ_self _),if_pos (Nat.lt_succ_self _)]; exact ⟨h1.symm,h2.symm⟩
          ·rw [upI_ne _ _ hjk,upI_ne _ _ hjk,h3.1,h3.2];by_cases h4:j < k
           ·rw [if_pos h4,if_pos h4,if_pos (by omega),if_pos (by omega)]; exact ⟨rfl,rfl⟩
           ·rw [if_neg h4,if_neg h4,if_neg (by omega),if_neg (by omega)]; exact ⟨rfl,rfl⟩
         case measure=>simp [intOf]; omega
       ·obtain rfl:k=3:=by omega
        have tk':decide (((3:Nat):Int) < 3)=false:=rfl
        have KD:Hid (BlkV wr gv 39 #[.int .i64 d.l0,.int .i64 d.h0,.int .i64 d.l1,.int .i64 d.h1,.int .i64 d.l2,.int .i64 d.h2]):=by
         have e:=VH_cong (lo:=lo) (hi:=hi) (v:=d) (fun j hj=>by have:=hL j hj; rw [if_pos hj,if_pos hj] at this; exact this);have k:=KV.out;rw [e] at k;exact k
        clear hL KV;obtain ⟨z1,z2,z3,z4,z5⟩:=X3.out.fin (by omega) (by omega) hne d ((n:Int)+1);have v0_:=KD.out.at_ 0 rfl;have v1_:=KD.out.at_ 1 rfl;have v2_:=KD.out.at_ 2 rfl;have v3_:=KD.out.at_ 3 rfl;have v4_:=KD.out.at_ 4 rfl;have v5_:=KD.out.at_ 5 rfl;have o0_:=X3.out.ko.at_ 0 rfl;have o1_:=X3.out.ko.at_ 1 rfl;have o2_:=X3.out.ko.at_ 2 rfl;have o3_:=X3.out.ko.at_ 3 rfl;have o4_:=X3.out.ko.at_ 4 rfl;have o5_:=X3.out.ko.at_ 5 rfl;have fo0:=X3.out.ko.frozen 0;have fo1:=X3.out.ko.frozen 1;have fo2:=X3.out.ko.frozen 2;have fo3:=X3.out.ko.frozen 3;have fo4:=X3.out.ko.frozen 4;have fo5:=X3.out.ko.frozen 5;have n0:=z1.at_ 0 rfl;have fn0:=z1.frozen 0;have wn:IntKind.i64.wrap ((n:Int)+1)=(n:Int)+1:=(by rw [IntKind.wrap_i64]; have:=hn.out; omega);gi_wp2
        refine ⟨z2,z3,HKW.out.trans z3,?_,?_⟩
        ·rw [List.map_append,List.map_cons,List.map_nil,← hdd.out]; exact z4
        ·rw [List.map_append,List.map_cons,List.map_nil,List.length_append,List.length_map,List.length_singleton,← hn.out]; exact z5
     case done=>
      rintro D ys W hD hys hI hDf;rw [show ys.map Subtype.val=y.ss.filter (inR f t) from hys] at hI;replace E0:=E0.out;obtain ⟨d,hd⟩:∃ d,d=ovV f t (y.ss.filter (inR f t)):=⟨_,rfl⟩;have KO2:=hI.ko;rw [← hd] at KO2 E0;replace KO2:=lh KO2;have KR2:Hid (BlkV W (w.heap.size+1) 39 #[.int .i64 0,.int .i64 0,.int .i64 0,.int .i64 0,.int .i64 0,.int .i64 0]):=(hI.kp.kp.block (w.heap.size+1) (by omega) (by omega) (by omega)).trans KR.out;have HBW:=lh (HB.out.trans hI.kp.hb);have lD:D < W.heap.size:=(Array.getElem?_eq_some_iff.1 hDf).1;replace hDf:=lh hDf;have lgD:w.heap.size≤D:=(by omega);have lg1:w.heap.size+1 < D:=(by omega);clear hI hys hd KO KN KR HB Q1 Q2 Q3 OB OS S;have o0_:=KO2.out.at_ 0 rfl;have o1_:=KO2.out.at_ 1 rfl;have o2_:=KO2.out.at_ 2 rfl;have o3_:=KO2.out.at_ 3 rfl;have o4_:=KO2.out.at_ 4 rfl;have o5_:=KO2.out.at_ 5 rfl;gi_wp2
      show Code.wp _ _ _ _ _
      go_wp2_with fail
      refine (sphcheck_any d _).mono ?_;rintro e w2 ⟨rfl,hb⟩;dsimp only;replace hDf:=lh ((hb.block D lD).trans hDf.out);replace KO2:=lh (KO2.out.keep hb);replace KR2:=lh (KR2.out.keep hb);replace HBW:=lh (q0a HBW.out hb);clear hb o0_ o1_ o2_ o3_ o4_ o5_;have r0:=KR2.out.at_ 0 rfl;have r1:=KR2.out.at_ 1 rfl;have r2:=KR2.out.at_ 2 rfl;have r3:=KR2.out.at_ 3 rfl;have r4:=KR2.out.at_ 4 rfl;have r5:=KR2.out.at_ 5 rfl;have fr0:=KR2.out.frozen 0;have fr1:=KR2.out.frozen 1;have fr2:=KR2.out.frozen 2;have fr3:=KR2.out.frozen 3;have fr4:=KR2.out.frozen 4;have fr5:=KR2.out.frozen 5
      cases hcv:chkV d with
      | true=>
       have E:=lh (E0.trans (if_pos hcv));have hc0:ckV8 d=0:=(by unfold ckV8; rw [hcv]; rfl);rw [hc0];clear E0 hc0;have o0_:=KO2.out.at_ 0 rfl;have o1_:=KO2.out.at_ 1 rfl;have o2_:=KO2.out.at_ 2 rfl;have o3_:=KO2.out.at_ 3 rfl;have o4_:=KO2.out.at_ 4 rfl;have o5_:=KO2.out.at_ 5 rfl;go_wp2
       have HD:=lh ((keeps6 w2 (w.heap.size+1) (.int .i64 d.l0) (.int .i64 d.h0) (.int .i64 d.l1) (.int .i64 d.h1) (.int .i64 d.l2) (.int .i64 d.h2)).same D _ hDf.out rfl);refine ⟨by simp,.inl ⟨_,_,rfl,run_takeDeferred HD.out,?_⟩⟩;have hp:=belowK_b (w:=w) (Nat.le_refl _) ((((((w2.setCell ⟨w.heap.size+1,0,none⟩ (.int .i64 d.l0)).setCell ⟨w.heap.size+1,1,none⟩ (.int .i64 d.h0)).setCell ⟨w.heap.size+1,2,none⟩ (.int .i64 d.l1)).setCell ⟨w.heap.size+1,3,none⟩ (.int .i64 d.h1)).setCell ⟨w.heap.size+1,4,none⟩ (.int .i64 d.l2)).setCell ⟨w.heap.size+1,5,none⟩ (.int .i64 d.h2)) D _ (.deferred none) lgD HD.out rfl rfl;have ksF:=BlkV.putD (KR2.out.put6 (.int .i64 d.l0) (.int .i64 d.h0) (.int .i64 d.l1) (.int .i64 d.h1) (.int .i64 d.l2) (.int .i64 d.h2)) HD.out (.deferred none) rfl;have kf0:=ksF.at_ 0 rfl;have kf1:=ksF.at_ 1 rfl;have kf2:=ksF.at_ 2 rfl;have kf3:=ksF.at_ 3 rfl;have kf4:=ksF.at_ 4 rfl;have kf5:=ksF.at_ 5 rfl;have hbF:=below_mono' (q1d HBW.out (Nat.le_succ _) (.int .i64 d.l0) (.int .i64 d.h0) (.int .i64 d.l1) (.int .i64 d.h1) (.int .i64 d.l2) (.int .i64 d.h2)) hp;clear hp ksF;refine ⟨.tuple #[.agg #[.int .i64 d.l0,.int .i64 d.h0,.int .i64 d.l1,.int .i64 d.h1,.int .i64 d.l2,.int .i64 d.h2],.int .i64 0],?_,by rw [E.out] <;> rfl,hbF⟩;simp [results,Tryz.f79,go_sem,kf0,kf1,kf2,kf3,kf4,kf5]
      | false=>
       have E:=lh (E0.trans (if_neg (by rw [hcv]; simp)));have hc0:ckV8 d=8:=(by unfold ckV8; rw [hcv]; rfl);rw [hc0];clear E0 hc0;go_wp2
       have HD:=lh ((keeps6 w2 (w.heap.size+1) (.int .i64 0) (.int .i64 0) (.int .i64 0) (.int .i64 0) (.int .i64 0) (.int .i64 0)).same D _ hDf.out rfl);refine ⟨by simp,.inl ⟨_,_,rfl,run_takeDeferred HD.out,?_⟩⟩;have hp:=belowK_b (w:=w) (Nat.le_refl _) ((((((w2.setCell ⟨w.heap.size+1,0,none⟩ (.int .i64 0)).setCell ⟨w.heap.size+1,1,none⟩ (.int .i64 0)).setCell ⟨w.heap.size+1,2,none⟩ (.int .i64 0)).setCell ⟨w.heap.size+1,3,none⟩ (.int .i64 0)).setCell ⟨w.heap.size+1,4,none⟩ (.int .i64 0)).setCell ⟨w.heap.size+1,5,none⟩ (.int .i64 0)) D _ (.deferred none) lgD HD.out rfl rfl;have ksF:=BlkV.putD (KR2.out.put6 (.int .i64 0) (.int .i64 0) (.int .i64 0) (.int .i64 0) (.int .i64 0) (.int .i64 0)) HD.out (.deferred none) rfl;have kf0:=ksF.at_ 0 rfl;have kf1:=ksF.at_ 1 rfl;have kf2:=ksF.at_ 2 rfl;have kf3:=ksF.at_ 3 rfl;have kf4:=ksF.at_ 4 rfl;have kf5:=ksF.at_ 5 rfl;have hbF:=below_mono' (q1d HBW.out (Nat.le_succ _) (.int .i64 0) (.int .i64 0) (.int .i64 0) (.int .i64 0) (.int .i64 0) (.int .i64 0)) hp;clear hp ksF;refine ⟨.tuple #[.agg #[.int .i64 0,.int .i64 0,.int .i64 0,.int .i64 0,.int .i64 0,.int .i64 0],.int .i64 16],?_,by rw [E.out] <;> rfl,hbF⟩;simp [results,Tryz.f79,go_sem,kf0,kf1,kf2,kf3,kf4,kf5]
     case stop=>(rintro D c pre W _ _ h _; exact h.elim)
 ·have E:=lh (ovE_bad (f:=f) (t:=t) h0);have E2:=lh (getV_err h0);go_enter Tryz.func79,Tryz.ntmps79
  go_wp2_with (fail)
  generalize hwz:(w.alloc (.cells #[.slice A bs.length c] 24)).alloc (.cells #[.int .i64 0,.int .i64 0,.int .i64 0,.int .i64 0,.int .i64 0,.int .i64 0] 39)=wz at *;have KE:Hid (BlkV wz w.heap.size 24 #[.slice A bs.length c]):=(by rw [← hwz]; exact (BlkV.fresh rfl _ _).alloc _);have KR:Hid (BlkV wz (w.heap.size+1) 39 #[.int .i64 0,.int .i64 0,.int .i64 0,.int .i64 0,.int .i64 0,.int .i64 0]):=(by rw [← hwz]; exact BlkV.fresh (by simp) _ _);have HB:Hid (Below w.heap.size w wz):=(by rw [← hwz]; exact q0a (blw1 _ _) (blw1 _ _));clear hwz;refine (eget_any bs A c B i wz (S.out.below HB.out)).mono ?_;rintro e w1 ⟨rfl,hb⟩;replace KE:=lh (KE.out.keep hb);replace KR:=lh (KR.out.keep hb);replace HB:=lh (q0a HB.out hb);clear hb;rw [E2.out];clear E2 S;generalize hasE bs i=x at *;have t0:(x != 0)=true:=bne_iff_ne.2 h0;clear h0;go_upto_region 2 with fail
  generalize hwx:w1.alloc (.cells #[.string ⟨zB.nm.toArray⟩,.int .i64 zB.gm,.int .i64 zB.rd,.slice zB.A zB.ss.length zB.c] 92)=wx at *;have KY:Hid (BlkV wx w1.heap.size 92 #[.string ⟨zB.nm.toArray⟩,.int .i64 zB.gm,.int .i64 zB.rd,.slice zB.A zB.ss.length zB.c]):=(by rw [← hwx]; exact BlkV.fresh rfl _ _);replace KR:Hid (BlkV wx (w.heap.size+1) 39 #[.int .i64 0,.int .i64 0,.int .i64 0,.int .i64 0,.int .i64 0,.int .i64 0]):=(by rw [← hwx]; exact KR.out.alloc _);replace HB:Hid (Below w.heap.size w wx):=(by rw [← hwx]; exact q0a HB.out (blw1 _ _));have hgy:=HB.out.size;skip;clear hwx;have r0:=KR.out.at_ 0 rfl;have r1:=KR.out.at_ 1 rfl;have r2:=KR.out.at_ 2 rfl;have r3:=KR.out.at_ 3 rfl;have r4:=KR.out.at_ 4 rfl;have r5:=KR.out.at_ 5 rfl;have fr0:=KR.out.frozen 0;have fr1:=KR.out.frozen 1;have fr2:=KR.out.frozen 2;have fr3:=KR.out.frozen 3;have fr4:=KR.out.frozen 4;have fr5:=KR.out.frozen 5;go_wp2
  exact bodyPost_ret (v:=.tuple #[.agg #[.int .i64 0,.int .i64 0,.int .i64 0,.int .i64 0,.int .i64 0,.int .i64 0],.int .i64 x]) (by simp [results,Tryz.results79,go_sem,r0,r1,r2,r3,r4,r5]) rfl ⟨by rw [E.out] <;> rfl,q1d HB.out (Nat.le_succ _) _ _ _ _ _ _⟩
end Go.Proofs.YtgnjhlnolihgcaaGreat
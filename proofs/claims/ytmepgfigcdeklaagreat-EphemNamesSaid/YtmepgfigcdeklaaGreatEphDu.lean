import Derived.Test.YtmepgfigcdeklaaGreatRegI
import Derived.Test.YtmepgfigcdeklaaGreatMg9
set_option maxHeartbeats 8000000
set_option maxRecDepth 100000
namespace Go.Proofs.YtmepgfigcdeklaaGreat
open Go.RowKit Go.Shelf
attribute [local go_sem ↓] Go.wp_at_zero Go.wp_at_succ
attribute [local go_sem] Oper.semAt_some
theorem during1_mem (F:Fence) (n:Nat) (hf:F.fn 97) (hro:F.round=none) (hn:1≤n) (g1 g2 g3:Nat) (b:BG) (f t:Int) (B:Nat) (w:World) (hlen:b.ss.length≤4398046511104)
  (Kp:World→World→Prop) (Inv:World→Prop) (hI0:∀ W,Below w.heap.size w W→Inv W) (hIK:∀ W W',Inv W→Kp W W'→Inv W') (hIA:∀ W o,Inv W→Inv (W.alloc o))
  (hIr:∀ W,Inv W→BlkV W g1 30 #[.string ⟨b.nm.toArray⟩,.int .i64 b.gm,.int .i64 b.rd,.slice b.A b.ss.length b.c]∧W.cell? ⟨g2,0,none⟩=some (.int .i64 t)∧W.cell? ⟨g3,0,none⟩=some (.int .i64 f)∧SlS W B b.A b.ss b.c) :
  ∀ (l:Nat) (J Jx:List SG→World→Prop) (W:World),Below w.heap.size w W→AbidesFrom W.heap.size J→AbidesFrom W.heap.size Jx →
   (∀ pre x W1,x∈b.ss→inR f t x=true→J pre W1→pre.length < b.ss.length→YieldAt F (n - 1) Tryz.prog l (encG f t x) W1 fun e W'=>(e=.returned (.bool true)∧J (pre ++ [x]) W'∧Kp W1 W')∨(e=.returned (.bool false)∧Jx (pre ++ [x]) W')) →
   J [] W→CallsIn F n Tryz.prog 97 (#[.func (.yield l) #[] #[]] ++ #[.pointer (some ⟨g1,0,none⟩),.pointer (some ⟨g2,0,none⟩),.pointer (some ⟨g3,0,none⟩)]) W fun e W'=>(∃ v,e=.returned v)∧((∃ xs,xs=b.ss.filter (inR f t)∧J xs W')∨(∃ pre,(∃ rest,pre ++ rest=b.ss.filter (inR f t))∧Jx pre W')):=fun lp J Jx W hW hAJ _ hY h0=>by
 have hc1:=(hIr W (hI0 W hW)).1.at_ 3 rfl;have HIA:=Lib.hid hIA;have HAJ:=Lib.hid hAJ;clear hIA hAJ;obtain ⟨bA,hbA⟩:∃ a,b.A=a:=⟨_,rfl⟩;rw [hbA] at hc1 hIr;refine callsIn_of_wp Tryz.func97 rfl hf ?_ hro;simp only [Tryz.ntmps97,List.size_toArray,List.length_cons,List.length_nil,Nat.reduceAdd,Nat.reduceSub,Array.replicate_succ,Array.replicate_zero,List.push_toArray,List.append_toArray,List.nil_append,List.cons_append];gi_wp2
 gi_loopw [10] (fun i wr=>∃ k:Nat,k≤b.ss.length∧i=.int .i64 k∧J ((b.ss.take k).filter (inR f t)) wr∧Inv wr) (fun i _=>b.ss.length - (intOf i).toNat)
 case atStart=>exact ⟨0,Nat.zero_le _,rfl,h0,hI0 W hW⟩
 case round=>
  obtain ⟨k,hk,rfl,hJ,hb⟩:=hrel;obtain ⟨hq1,hq2,hq3,hs2⟩:=hIr wr hb;have HQ1:=Lib.hid hq1;have HQ2:=Lib.hid hq2;have HQ3:=Lib.hid hq3;have HS:=Lib.hid hs2;have HJ:=Lib.hid hJ;have HI:=Lib.hid hb;clear hq1 hq2 hq3 hs2 hJ hb;by_cases hlt:k < b.ss.length
  ·have tk':decide ((k:Int) < (b.ss.length:Int))=true:=decide_eq_true (by omega);obtain ⟨bb,o,rfl,-,p0,p1,p2,p3,p4,hok⟩:=HS.out.at_ hlt;have HIn:Hid (inR f t (b.ss[k]'hlt)=true→(b.ss.take (k+1)).filter (inR f t)=(b.ss.take k).filter (inR f t) ++ [b.ss[k]'hlt]):=fun h=>filt_snoc hlt h;have HSk:Hid (inR f t (b.ss[k]'hlt)=false→(b.ss.take (k+1)).filter (inR f t)=(b.ss.take k).filter (inR f t)):=fun h=>filt_skip hlt h;have HL:=Lib.hid (filt_le (inR f t) b.ss k);have hIdef:∀ s:SG,inR f t s=(decide (s.F≤t) && decide (f≤s.T)):=fun s=>rfl;have hmem:b.ss[k]'hlt∈b.ss:=List.getElem_mem hlt;generalize b.ss[k]'hlt=s at *;have HJA:Hid (J ((b.ss.take k).filter (inR f t)) (wr.alloc (.cells #[.int .i64 s.F,.int .i64 s.T,.slice s.A0 s.l0.length s.c0,.slice s.A1 s.l1.length s.c1,.slice s.A2 s.l2.length s.c2] 34))):=HAJ.out _ _ _ none HJ.out (World.grownBy_alloc wr _ none) (fun r e=>by cases e);have HIAx:Hid (Inv (wr.alloc (.cells #[.int .i64 s.F,.int .i64 s.T,.slice s.A0 s.l0.length s.c0,.slice s.A1 s.l1.length s.c1,.slice s.A2 s.l2.length s.c2] 34))):=HIA.out _ _ HI.out;have hy1:W.heap.size≤W.heap.size:=Nat.le_refl _
   cases hin:inR f t s with
   | false=>
    have HN:=Lib.hid (HSk.out hin);rw [hIdef] at hin;clear hY HIn HSk hy1 hmem;by_cases h1:s.F≤t
    ·have t1:decide (s.F≤t)=true:=decide_eq_true h1;have t2:decide (f≤s.T)=false:=(by rw [t1] at hin; simpa using hin);clear hin hIdef h1;have q2:=HQ2.out; have l2:=lt_of_cell (a:=⟨g2,0,none⟩) q2;have q3:=HQ3.out; have l3:=lt_of_cell (a:=⟨g3,0,none⟩) q3;gi_wp2
     refine ⟨fun _ h=>(by cases h),?_⟩;gi_wp2
     go_roundw
     case rel=>exact ⟨k+1,by omega,by go_num,by rw [HN.out]; exact HJA.out,HIAx.out⟩
     case measure=>simp [intOf]; omega
    ·have t1:decide (s.F≤t)=false:=decide_eq_false h1;clear hin hIdef h1;have q2:=HQ2.out; have l2:=lt_of_cell (a:=⟨g2,0,none⟩) q2;have q3:=HQ3.out; have l3:=lt_of_cell (a:=⟨g3,0,none⟩) q3;gi_wp2
     refine ⟨fun _ h=>(by cases h),?_⟩;gi_wp2
     go_roundw
     case rel=>exact ⟨k+1,by omega,by go_num,by rw [HN.out]; exact HJA.out,HIAx.out⟩
     case measure=>simp [intOf]; omega
   | true=>
    have HN:=Lib.hid (HIn.out hin);have hinn:=hin;rw [hIdef] at hin;simp only [Bool.and_eq_true,decide_eq_true_eq] at hin;have t1:decide (s.F≤t)=true:=decide_eq_true hin.1;have t2:decide (f≤s.T)=true:=decide_eq_true hin.2;have hpl:((b.ss.take k).filter (inR f t)).length < b.ss.length:=(by have:=HL.out; omega);obtain ⟨fn,tmps,assign,body,hy,hR⟩:=hY _ s _ hmem hinn HJA.out hpl;clear hY HIn HSk hin hinn hmem hIdef hpl;have q2:=HQ2.out; have l2:=lt_of_cell (a:=⟨g2,0,none⟩) q2;have q3:=HQ3.out; have l3:=lt_of_cell (a:=⟨g3,0,none⟩) q3;dsimp only [encG] at hy hR;gi_wp2
    refine hR.mono ?_;rintro e W3 (⟨rfl,hJ3,hk3⟩ | ⟨rfl,hJx3⟩)
    ·gi_wp2
     go_roundw
     case rel=>exact ⟨k+1,by omega,by go_num,by rw [HN.out]; exact hJ3,hIK _ _ HIAx.out hk3⟩
     case measure=>simp [intOf]; omega
    ·have HX:=Lib.hid (filt_rest (p:=inR f t) (ss:=b.ss) (k+1));rw [HN.out] at HX;gi_wp2
     refine bodyPost_ret (results_none rfl _ _ _) rfl ?_;exact ⟨⟨_,rfl⟩,.inr ⟨_,HX.out,hJx3⟩⟩
  ·obtain rfl:k=b.ss.length:=by omega
   have tk':decide ((b.ss.length:Int) < (b.ss.length:Int))=false:=decide_eq_false (by omega);have HE:Hid (J (b.ss.filter (inR f t)) wr):=(by have:=HJ.out; rwa [List.take_length] at this);gi_wp2
   go_end0
   exact ⟨⟨_,rfl⟩,.inl ⟨_,rfl,HE.out⟩⟩
abbrev InS (b:BG) (f t:Int):={ s:SG // s∈b.ss∧inR f t s=true }
theorem during1_sub (F:Fence) (n:Nat) (hf:F.fn 97) (hro:F.round=none) (hn:1≤n) (g1 g2 g3:Nat) (b:BG) (f t:Int) (B:Nat) (w:World) (hlen:b.ss.length≤4398046511104)
  (Kp:World→World→Prop) (Inv:World→Prop) (hI0:∀ W,Below w.heap.size w W→Inv W) (hIK:∀ W W',Inv W→Kp W W'→Inv W') (hIA:∀ W o,Inv W→Inv (W.alloc o))
  (hIr:∀ W,Inv W→BlkV W g1 30 #[.string ⟨b.nm.toArray⟩,.int .i64 b.gm,.int .i64 b.rd,.slice b.A b.ss.length b.c]∧W.cell? ⟨g2,0,none⟩=some (.int .i64 t)∧W.cell? ⟨g3,0,none⟩=some (.int .i64 f)∧SlS W B b.A b.ss b.c) :
  SeqStopsK F n Tryz.prog 97 #[.pointer (some ⟨g1,0,none⟩),.pointer (some ⟨g2,0,none⟩),.pointer (some ⟨g3,0,none⟩)] (fun x:InS b f t=>encG f t x.1) Kp (fun ys=>ys.map (·.1)=b.ss.filter (inR f t)) (fun pre=>∃ rest,pre.map (·.1) ++ rest=b.ss.filter (inR f t)) b.ss.length w:=fun lp J Jx W hW hJ hJx hY h0=>by
 have ab:∀ {K:List (InS b f t)→World→Prop},AbidesFrom W.heap.size K→AbidesFrom W.heap.size (fun pre V=>∃ q:List (InS b f t),q.map (·.1)=pre∧K q V):=fun {K} h s X Y row hs hg hr=>by
  obtain ⟨q,e,hk⟩:=hs;exact ⟨q,e,h q X Y row hk hg hr⟩
 refine (during1_mem F n hf hro hn g1 g2 g3 b f t B w hlen Kp Inv hI0 hIK hIA hIr lp (fun pre V=>∃ q:List (InS b f t),q.map (·.1)=pre∧J q V) (fun pre V=>∃ q:List (InS b f t),q.map (·.1)=pre∧Jx q V) W hW (ab hJ) (ab hJx) ?_ ⟨[],rfl,h0⟩).mono ?_
 ·rintro pre x W1 hx hin ⟨q,rfl,hq⟩ hl;refine (hY q ⟨x,hx,hin⟩ W1 hq (by simpa using hl)).mono ?_;rintro e W' (⟨h1,h2,h3⟩ | ⟨h1,h2⟩)
  ·exact .inl ⟨h1,⟨_,by simp,h2⟩,h3⟩
  ·exact .inr ⟨h1,⟨_,by simp,h2⟩⟩
 ·rintro e W' ⟨hv,(⟨xs,h1,q,h2,h3⟩ | ⟨pre,⟨rest,h1⟩,q,h2,h3⟩)⟩
  ·exact ⟨hv,.inl ⟨q,h2.trans h1,h3⟩⟩
  ·exact ⟨hv,.inr ⟨q,⟨rest,by rw [h2]; exact h1⟩,h3⟩⟩
end Go.Proofs.YtmepgfigcdeklaaGreat
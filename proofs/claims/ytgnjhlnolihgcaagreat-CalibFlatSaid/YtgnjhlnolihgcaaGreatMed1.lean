import Derived.Test.YtgnjhlnolihgcaaGreatCal3
import Derived.BigQuiet
import Derived.Deep.QuietTactic
import Derived.Deep.Upon
set_option maxHeartbeats 4000000
set_option maxRecDepth 100000
namespace Go.Proofs.YtgnjhlnolihgcaaGreat
open Lib renaming hid → lh
open Go.RowKit Go.Lib Go.Shelf
attribute [local go_sem ↓] Go.wp_at_zero Go.wp_at_succ
theorem wp_appI_at {o:Oper} {a:Act} {w:World} {K:Act→World→Prop} {Q:Exit→Act→World→Prop} (s x:Operand) (t:TypeId) (ho:o.op=.call { callee:=.builtin .append,args:=#[s,x],argTypes:=#[t,t] }) (v1 v2 v':Value) (w':World) (hs:a.eval s=v1) (hx:a.eval x=v2)
  (hr:(Builtin.append_ #[t,t] o.type #[v1,v2]).run Tryz.prog w=.ok v' w') (h:K (a.put o.dst v') w'):o.wp Tryz.prog a w K Q:=by
 unfold Oper.wp execOp;simp only [ho,resolve,invoke,builtin,Sem.run_bind,Sem.run_pure,Result.andThen_ok,List.map_toArray,List.map_cons,List.map_nil,hs,hx,hr];exact h
theorem app_nums (ty B0 B:Nat) (A:Option Addr) (l:List Int) (c:Nat) (v:Value) (n:Nat) (xs:List Value) (w:World) (hs:RdV w B A (cI l)) (ho:w.ownsRow B0 2 1 v n xs) (hn:n+l.length≤1000000) (hB:B0≤w.heap.size) :
  ∃ v' w',(Builtin.append_ #[51, 51] ty #[v,.slice A l.length c]).run Tryz.prog w=.ok v' w'∧w'.ownsRow B0 2 1 v' (n+l.length) (xs ++ cI l)∧(∀ B',B'≤B0→Below B' w w'):=by
 obtain ⟨i,hi,hz,hsz,hby⟩:=info_parts (show (Tryz.prog.info? 2).map (fun i=>(i.zero,i.size,i.bytes))=some (some (.int .i64 0),1,8) by kernel_rfl)
 cases l with
 | nil=>
  have hr:(Builtin.append_ #[51, 51] ty #[v,.slice A 0 c]).run Tryz.prog w=.ok v w:=by
   have hsrc:Src Tryz.prog i.size 51 (.slice A 0 c) 0 [] w:=by
    cases A with
    | none=>exact Src.ofNil w Tryz.underlying51 c
    | some a=>exact Src.ofSlice w Tryz.underlying51 a 0 c [] (by simp) (fun j u h=>by simp at h) (fun u h=>by cases h)
   rcases ho.2 with ⟨rfl,rfl⟩ | ⟨g,cap,cur,rfl,_,_,hnc,_⟩
   ·exact run_append_nothing w 51 51 ty 2 i Tryz.underlying51 hi none 0 0 (Nat.le_refl _) _ hsrc
   ·exact run_append_nothing w 51 51 ty 2 i Tryz.underlying51 hi _ n cap hnc _ hsrc
  refine ⟨v,w,hr,?_,fun B' _=>Below.refl _ _⟩;simpa [cI] using ho
 | cons x l=>
  obtain ⟨b,q,rfl,-,hc⟩:=hs (by rw [q0p]; simp);obtain ⟨v',w',hr,ho',hg,-⟩:=run_append_own (P:=Tryz.prog) w B0 51 ty 2 i (.int .i64 0) 1 8 Tryz.underlying51 hi hz hsz hby rfl (by omega) v n xs ho ⟨b,q,none⟩ (x :: l).length c (cI (x :: l)) (by rw [q0p]; simp) (fun j u hu=>by rw [Addr.add_lit]; exact hc j u hu) cI_one (by unfold maxLen; omega) (by omega) hB;refine ⟨v',w',hr,ho',fun B' hB'=>?_⟩;exact (Below.refl _ _).grown hg (by omega) (fun k hk=>by have:=(World.ownsRow.lt ho k hk).1; omega)
theorem sli_own {w:World} {base:Nat} {l:List Int} {v:Value} (h:OwV w base 2 v (cI l)) (hl:In64 l) (hn:l.length≤17592186044416):∃ A' c',v=.slice A' l.length c'∧SlI w w.heap.size A' l c':=by
 obtain ⟨A,c,rfl,hc⟩:=h.form;rw [q0p] at hc;refine ⟨A,c,by rw [q0p],⟨h.rd,hl,hc,hn⟩⟩
theorem clone64_any (A:Option Addr) (l:List Int) (B c:Nat) (w:World) (hs:SlI w B A l c) (hl:l.length≤1000) :
  Calls Tryz.prog 179 #[.slice A l.length c] w fun e w'=>∃ A' c',e=.returned (.slice A' l.length c')∧OwV w' w.heap.size 2 (.slice A' l.length c') (cI l)∧SlI w' w'.heap.size A' l c'∧Below w.heap.size w w':=by
 have S:=lh hs;clear hs;have en:∀ W,(binOp .eql 51 (.slice A l.length c) (.slice none 0 0)).run Tryz.prog W=.ok (.bool A.isNone) W:=fun W=>run_eql_slice_nil W 51 2 A _ c 0 0 Tryz.underlying51
 cases A with
 | none=>
  have h0:l=[]:=by
   cases l with
   | nil=>rfl
   | cons x l=>
    obtain ⟨b,q,e,-⟩:=S.out.at_ (k:=0) (Nat.succ_pos _);cases e
  subst h0;simp only [List.length_nil] at en;go_enter Tryz.func179,Tryz.ntmps179
  go_wp2_with fail
  go_ret
  exact ⟨none,0,rfl,OwV.nil0 _ _ _,SlI.nil _ _ _ _,Below.refl _ _⟩
 | some a=>
  have hb:=blw1 w (.cells #[] 2);have K0:BlkV (w.alloc (.cells #[] 2)) w.heap.size 2 #[]:=BlkV.fresh rfl _ _;have ow:(w.alloc (.cells #[] 2)).ownsRow w.heap.size 2 1 (.slice (some ⟨w.heap.size,0,none⟩) 0 0) 0 []:=⟨rfl,.inr ⟨w.heap.size,0,#[],rfl,Nat.le_refl _,K0,Nat.le_refl _,Nat.zero_le _,rfl,rfl⟩⟩;obtain ⟨v',w2,hr,how,hbb⟩:=app_nums 51 w.heap.size B (some a) l c _ 0 [] (w.alloc (.cells #[] 2)) (S.out.below hb).rd ow (by omega) hb.size;rw [Nat.zero_add,List.nil_append] at how;have how2:OwV w2 w.heap.size 2 v' (cI l):=(by unfold OwV; rw [q0p]; exact how);obtain ⟨A',c',e',hsl⟩:=sli_own how2 S.out.lim S.out.len;subst e';have B2:=lh (hb.trans (hbb _ (Nat.le_refl _)));have HW:=lh how2;have HS:=lh hsl;clear how ow K0 hb hbb S how2 hsl;skip;go_enter Tryz.func179,Tryz.ntmps179
  go_wp2_with (at_builtin; refine wpList_plain rfl fun _ hK=>wp_appI_at (.tmp 5) (.tmp 6) 51 rfl _ _ _ _ (by kernel_rfl) (by kernel_rfl) hr (hK _ _ ?_))
  go_ret
  exact ⟨_,_,rfl,HW.out,HS.out,B2.out⟩
theorem rchk1_any (x:Int) (h1 : -4294967296≤x) (h2:x≤4294967296) (w:World) :
  Calls Tryz.prog 211 #[.int .i64 x] w fun e w'=>e=.returned (.bool false)∧w'=w:=by
 have t1:decide (x < -4294967296)=false:=decide_eq_false (by omega);have t2:decide (4294967296 < x)=false:=decide_eq_false (by omega);go_enter Tryz.func211,Tryz.ntmps211
 go_wp2
 go_ret
 first | exact ⟨rfl,rfl⟩ | exact ⟨rfl,trivial⟩ | trivial
theorem rindex_any (A:Option Addr) (l:List Int) (c B:Nat) (w:World) (hs:SlI w B A l c) (hb:∀ x∈l,-4294967296≤x∧x≤4294967296) :
  Calls Tryz.prog 236 #[.slice A l.length c,.func (.func 211) #[] #[]] w fun e w'=>e=.returned (.int .i64 (-1))∧w'=w:=by
 have hm:=hs.len;have S:=lh hs;have HB:=lh hb;clear hs hb;go_enter Tryz.func236,Tryz.ntmps236
 go_wp2
 go_loopw [8] (fun s8 wr=>∃ k:Nat,k≤l.length∧s8=.int .i64 k∧wr=w) (fun v _=>l.length - (intOf v).toNat)
 case atStart=>exact ⟨0,Nat.zero_le _,rfl,rfl⟩
 case round=>
  obtain ⟨k,hk,rfl,rfl⟩:=hrel;by_cases hlt:k < l.length
  ·obtain ⟨b,o,rfl,-,q0⟩:=S.out.at_ (k:=k) hlt;have hx:=HB.out _ (List.getElem_mem hlt);generalize l[k]'hlt=x at *;obtain ⟨hx1,hx2⟩:=hx;go_wp2_with fail
   refine (rchk1_any x hx1 hx2 _).mono ?_;rintro e w1 ⟨rfl,rfl⟩;go_wp2
   go_roundw
   case rel=>exact ⟨k+1,by omega,by go_num,by first | rfl | trivial⟩
   case measure=>simp [intOf]; omega
  ·obtain rfl:k=l.length:=by omega
   go_wp2
   go_ret
   first | exact ⟨rfl,rfl⟩ | exact ⟨rfl,trivial⟩ | trivial
theorem rcontains_any (A:Option Addr) (l:List Int) (c B:Nat) (w:World) (hs:SlI w B A l c) (hb:∀ x∈l,-4294967296≤x∧x≤4294967296) :
  Calls Tryz.prog 210 #[.slice A l.length c,.func (.func 211) #[] #[]] w fun e w'=>e=.returned (.bool false)∧w'=w:=by
 have hI:=lh (rindex_any A l c B w hs hb);clear hs hb;go_enter Tryz.func210,Tryz.ntmps210
 go_wp2_with fail
 refine hI.out.mono ?_;rintro e w1 ⟨rfl,rfl⟩;go_wp2
 go_ret
 first | exact ⟨rfl,rfl⟩ | exact ⟨rfl,trivial⟩ | trivial
theorem rcheck7_any (A:Option Addr) (l:List Int) (c B:Nat) (w:World) (hs:SlI w B A l c) (hb:∀ x∈l,-4294967296≤x∧x≤4294967296) (hl:l.length≤1000) :
  Calls Tryz.prog 175 #[.slice A l.length c] w fun e w'=>e=.returned (.int .i64 0)∧w'=w:=by
 have t1:decide (1000 < (l.length:Int))=false:=decide_eq_false (by omega);have t2:decide (1000 < l.length)=false:=decide_eq_false (by omega);have hI:=lh (rcontains_any A l c B w hs hb);clear hs hb;go_enter Tryz.func175,Tryz.ntmps175
 go_wp2_with fail
 refine hI.out.mono ?_;rintro e w1 ⟨rfl,rfl⟩;go_wp2
 go_ret
 first | exact ⟨rfl,rfl⟩ | exact ⟨rfl,trivial⟩ | trivial
theorem rstart_any (A:Option Addr) (l:List Int) (c B:Nat) (w:World) (hs:SlI w B A l c) (hb:∀ x∈l,-4294967296≤x∧x≤4294967296) (hl:l.length≤1000) (h0:0 < l.length) :
  Calls Tryz.prog 142 #[.slice A l.length c] w fun e w'=>e=.returned (.int .i64 0)∧w'=w:=by
 have t1:((l.length:Int) == 0)=false:=(by rw [beq_eq_false_iff_ne]; omega);have hI:=lh (rcheck7_any A l c B w hs hb hl);clear hs hb;go_enter Tryz.func142,Tryz.ntmps142
 go_wp2_with fail
 refine hI.out.mono ?_;rintro e w1 ⟨rfl,rfl⟩;go_wp2
 go_ret
 first | exact ⟨rfl,rfl⟩ | exact ⟨rfl,trivial⟩ | trivial
theorem isnan_any (x:Int) (w:World):Calls Tryz.prog 238 #[.int .i64 x] w fun e w'=>e=.returned (.bool false)∧w'=w:=by
 have t1:(x != x)=false:=(by simp);go_enter Tryz.func238,Tryz.ntmps238
 go_wp2
 go_ret
 first | exact ⟨rfl,rfl⟩ | exact ⟨rfl,trivial⟩ | trivial
theorem ccmp_any (x y:Int) (w:World):Calls Tryz.prog 214 #[.int .i64 x,.int .i64 y] w fun e w'=>e=.returned (.int .i64 (cmpZ x y))∧w'=w:=by
 by_cases h1:x < y
 ·have t1:decide (x < y)=true:=decide_eq_true h1;have E:Hid (cmpZ x y = -1):=if_pos h1;clear h1;go_enter Tryz.func214,Tryz.ntmps214
  go_wp2_with fail
  refine (isnan_any x _).mono ?_;rintro e w1 ⟨rfl,rfl⟩;go_wp2_with fail
  refine (isnan_any y _).mono ?_;rintro e w2 ⟨rfl,rfl⟩;go_wp2
  go_ret
  exact ⟨by rw [E.out]; rfl,rfl⟩
 ·have t1:decide (x < y)=false:=decide_eq_false h1;by_cases h2:y < x
  ·have t2:decide (y < x)=true:=decide_eq_true h2;have E:Hid (cmpZ x y=1):=(by unfold Hid cmpZ; rw [if_neg h1,if_pos h2]);clear h1 h2;go_enter Tryz.func214,Tryz.ntmps214
   go_wp2_with fail
   refine (isnan_any x _).mono ?_;rintro e w1 ⟨rfl,rfl⟩;go_wp2_with fail
   refine (isnan_any y _).mono ?_;rintro e w2 ⟨rfl,rfl⟩;go_wp2
   go_ret
   exact ⟨by rw [E.out]; rfl,rfl⟩
  ·have t2:decide (y < x)=false:=decide_eq_false h2;have E:Hid (cmpZ x y=0):=(by unfold Hid cmpZ; rw [if_neg h1,if_neg h2]);clear h1 h2;go_enter Tryz.func214,Tryz.ntmps214
   go_wp2_with fail
   refine (isnan_any x _).mono ?_;rintro e w1 ⟨rfl,rfl⟩;go_wp2_with fail
   refine (isnan_any y _).mono ?_;rintro e w2 ⟨rfl,rfl⟩;go_wp2
   go_ret
   exact ⟨by rw [E.out]; rfl,rfl⟩
theorem key_any (x:Int) (w:World):Calls Tryz.prog 177 #[.int .i64 x] w fun e w'=>e=.returned (.int .i64 x)∧w'=w:=by
 go_enter Tryz.func177,Tryz.ntmps177
 go_wp2
 go_ret
 first | exact ⟨rfl,rfl⟩ | exact ⟨rfl,trivial⟩ | trivial
def keyF:Value:=.func (.func 177) #[] #[]
theorem ordc_any (x y:Int) (g:Nat) (w:World) (h0:w.cell? ⟨g,0,none⟩=some keyF) :
  Calls Tryz.prog 213 #[.int .i64 x,.int .i64 y,.pointer (some ⟨g,0,none⟩)] w fun e w'=>e=.returned (.int .i64 (cmpZ x y))∧∃ n,w'=w.drewN n:=by
 unfold keyF at h0;go_enter Tryz.func213,Tryz.ntmps213
 go_wp2_with fail
 go_quiet (first
  | (go_at_call 177; exact Calls.quiet_of_same (key_any _ _))
  | (go_at_call 214; exact Calls.quiet_of_same (ccmp_any _ _ _)))
 go_wp2
 go_ret
 exact ⟨rfl,nq,rfl⟩
def Srt (l:List Int):Prop:=∀ k,(h:k+1 < l.length)→l[k]'(by omega)≤l[k+1]'h
theorem cmpZ_ge {x y:Int} (h:y≤x):0≤cmpZ x y:=by unfold cmpZ; rw [if_neg (by omega)]; split <;> omega
theorem insert_srt (A:Option Addr) (l:List Int) (c B g:Nat) (w:World) (hs:SlI w B A l c) (hl:l.length≤1000) (h0:w.cell? ⟨g,0,none⟩=some keyF) (hq:Srt l) :
  Calls Tryz.prog 242 #[.slice A l.length c,.int .i64 0,.int .i64 l.length,.func (.func 213) #[] #[.pointer (some ⟨g,0,none⟩)]] w fun e w'=>e=.returned (.tuple #[])∧Below w.heap.size w w':=by
 have S:=lh hs;have C0:=lh h0;have HQ:=lh hq;clear hs h0 hq;go_enter Tryz.func242,Tryz.ntmps242
 go_wp2
 go_loopw [8] (fun s8 wr=>∃ k:Nat,(k+1≤l.length∨k=0)∧s8=.int .i64 ((k:Int)+1)∧Below w.heap.size w wr) (fun v _=>l.length+1 - (intOf v).toNat)
 case atStart=>exact ⟨0,.inr rfl,rfl,Below.refl _ _⟩
 case round=>
  obtain ⟨k,hk,rfl,hbw⟩:=hrel;have HB:=lh hbw;clear hbw;by_cases hlt:k+1 < l.length
  ·have tk:decide ((k:Int)+1 < (l.length:Int))=true:=decide_eq_true (by omega);have S2:=lh (S.out.below HB.out);obtain ⟨b,o,rfl,-,q0⟩:=S2.out.at_ (k:=k) (by omega);obtain ⟨b',o',e,-,q1⟩:=S2.out.at_ (k:=k+1) hlt;cases e
   have hle:=cmpZ_ge (HQ.out k hlt);generalize l[k]'(by omega)=y at *;generalize l[k+1]'hlt=x at *;have tc:decide (cmpZ x y < 0)=false:=decide_eq_false (by omega);go_wp2
   go_loopw [9] (fun s9 wi=>s9=.int .i64 ((k:Int)+1)∧wi=wr) (fun _ _=>0)
   case atStart=>exact ⟨rfl,rfl⟩
   case round=>
    obtain ⟨rfl,rfl⟩:=hrel;have tj:decide (0 < (k:Int)+1)=true:=decide_eq_true (by omega);have K:wr.cell? ⟨g,0,none⟩=some keyF:=q0b HB.out C0.out;have ws:IntKind.i64.wrap ((k:Int)+1 - 1)=(k:Int):=(by rw [IntKind.wrap_i64]; omega);go_wp2_with fail
    go_quiet ((go_at_call 213; refine Calls.quiet_of (ordc_any x y g _ ?_); exact K))
    go_wp2
    go_roundw
    case rel=>exact ⟨k+1,by omega,by go_num,below_drewN HB.out _⟩
    case measure=>simp [intOf]; omega
  ·have tk:decide ((k:Int)+1 < (l.length:Int))=false:=decide_eq_false (by omega);go_wp2
   go_end0
   exact ⟨rfl,HB.out⟩
theorem stable_srt (A:Option Addr) (l:List Int) (c B g:Nat) (w:World) (hs:SlI w B A l c) (hl:l.length≤19) (h0:w.cell? ⟨g,0,none⟩=some keyF) (hq:Srt l) :
  Calls Tryz.prog 237 #[.slice A l.length c,.int .i64 l.length,.func (.func 213) #[] #[.pointer (some ⟨g,0,none⟩)]] w fun e w'=>e=.returned (.tuple #[])∧Below w.heap.size w w':=by
 have hI:=lh (insert_srt A l c B g w hs (by omega) h0 hq);have t1:decide (20≤(l.length:Int))=false:=decide_eq_false (by omega);have t2:decide (20 < (l.length:Int))=false:=decide_eq_false (by omega);have t3:decide (20≤l.length)=false:=decide_eq_false (by omega);have t4:decide (20 < l.length)=false:=decide_eq_false (by omega);clear hs h0 hq hl;go_enter Tryz.func237,Tryz.ntmps237
 go_wp2
 go_loopw [7,8] (fun s7 s8 wi=>s7=.int .i64 0∧s8=.int .i64 20∧wi=w) (fun _ _ _=>0)
 case atStart=>exact ⟨rfl,rfl,rfl⟩
 case round=>
  obtain ⟨rfl,rfl,rfl⟩:=hrel;go_wp2_with fail
  refine hI.out.mono ?_;rintro e w1 ⟨rfl,hb⟩;have HB:=lh hb;clear hb;go_wp2
  go_loopw [6] (fun s6 wi=>s6=.int .i64 20∧wi=w1) (fun _ _=>0)
  case atStart=>exact ⟨rfl,rfl⟩
  case round=>
   obtain ⟨rfl,rfl⟩:=hrel;go_wp2
   go_end0
   exact ⟨rfl,HB.out⟩
theorem sort_srt (A:Option Addr) (l:List Int) (c B g:Nat) (w:World) (hs:SlI w B A l c) (hl:l.length≤19) (h0:w.cell? ⟨g,0,none⟩=some keyF) (hq:Srt l) :
  Calls Tryz.prog 212 #[.slice A l.length c,.func (.func 213) #[] #[.pointer (some ⟨g,0,none⟩)]] w fun e w'=>e=.returned (.tuple #[])∧Below w.heap.size w w':=by
 have hI:=lh (stable_srt A l c B g w hs hl h0 hq);clear hs h0 hq hl;go_enter Tryz.func212,Tryz.ntmps212
 go_wp2_with fail
 refine hI.out.mono ?_;rintro e w1 ⟨rfl,hb⟩;go_wp2
 go_end0
 exact ⟨rfl,hb⟩
theorem ordered_srt (A:Option Addr) (l:List Int) (c B:Nat) (w:World) (hs:SlI w B A l c) (hl:l.length≤19) (hq:Srt l) :
  Calls Tryz.prog 176 #[.slice A l.length c,.func (.func 177) #[] #[]] w fun e w'=>∃ A' c',e=.returned (.slice A' l.length c')∧SlI w' w'.heap.size A' l c'∧Below w.heap.size w w':=by
 have S:=lh hs;have HQ:=lh hq;clear hs hq;go_enter Tryz.func176,Tryz.ntmps176
 go_wp2_with fail
 refine (clone64_any A l B c _ (S.out.alloc _) (by omega)).mono ?_;rintro e w1 ⟨A',c',rfl,-,hs1,hb⟩;have S1:=lh hs1;have K:Hid (w1.cell? ⟨w.heap.size,0,none⟩=some keyF):=q0b hb (by simp [keyF]);have HB:=lh (q0a (blw1 _ _) hb);clear hs1 hb S;go_wp2_with fail
 refine (sort_srt A' l c' w1.heap.size w.heap.size w1 S1.out hl K.out HQ.out).mono ?_;rintro e w2 ⟨rfl,hb⟩;go_wp2
 go_ret
 exact ⟨A',c',rfl,(S1.out.below hb).here,q0a HB.out hb⟩
def twL (l:List Int):Int:=l.getD ((l.length - 1) / 2) 0+l.getD (l.length / 2) 0
theorem getD_at {l:List Int} {k:Nat} (h:k < l.length):l.getD k 0=l[k]'h:=by rw [List.getD_eq_getElem?_getD,List.getElem?_eq_getElem h]; rfl
theorem twice_srt (A:Option Addr) (l:List Int) (c B:Nat) (w:World) (hs:SlI w B A l c) (hl:l.length≤19) (h0:0 < l.length) (hb:∀ x∈l,-4294967296≤x∧x≤4294967296) (hq:Srt l) :
  Calls Tryz.prog 143 #[.slice A l.length c] w fun e w'=>e=.returned (.int .i64 (twL l))∧Below w.heap.size w w':=by
 have hO:=lh (ordered_srt A l c B w hs hl hq);have HB:=lh hb;clear hs hq hb;obtain ⟨i,hi⟩:∃ i,(l.length - 1) / 2=i:=⟨_,rfl⟩;obtain ⟨j,hj⟩:∃ j,l.length / 2=j:=⟨_,rfl⟩;have hi1:i < l.length:=(by omega);have hj1:j < l.length:=(by omega);have ei:((l.length:Int) - 1).tdiv 2=(i:Int):=(by rw [Int.tdiv_eq_ediv_of_nonneg (by omega)]; omega);have ej:(l.length:Int).tdiv 2=(j:Int):=(by rw [Int.tdiv_eq_ediv_of_nonneg (by omega)]; omega);have bi:=HB.out _ (List.getElem_mem hi1);have bj:=HB.out _ (List.getElem_mem hj1);have E:Hid (twL l=l[i]'hi1+l[j]'hj1):=(by unfold Hid twL; rw [hi,hj,getD_at hi1,getD_at hj1]);clear hi hj;go_enter Tryz.func143,Tryz.ntmps143
 go_wp2_with fail
 refine hO.out.mono ?_;rintro e w1 ⟨A',c',rfl,hs1,hb⟩;obtain ⟨b,o,rfl,-,q0⟩:=hs1.at_ (k:=i) hi1;obtain ⟨b',o',e,-,q1⟩:=hs1.at_ (k:=j) hj1;cases e
 have B1:=lh hb;clear hs1 hb hO HB;generalize l[i]'hi1=x at *;generalize l[j]'hj1=y at *;go_wp2_with fail
 go_quiet (fail)
 go_wp2
 go_ret
 exact ⟨by rw [E.out]; rfl,below_drewN B1.out _⟩
theorem median_srt (A:Option Addr) (l:List Int) (c B:Nat) (w:World) (hs:SlI w B A l c) (hl:l.length≤19) (h0:0 < l.length) (hb:∀ x∈l,-4294967296≤x∧x≤4294967296) (hq:Srt l) :
  Calls Tryz.prog 100 #[.slice A l.length c] w (FRes (redZ (twL l) 2,0) w):=by
 have S:=lh hs;have HQ:=lh hq;have HL:=lh hb
 have htw : -17179869184≤twL l∧twL l≤17179869184:=by
  have h1:=hb _ (List.getElem_mem (show (l.length - 1) / 2 < l.length by omega));have h2:=hb _ (List.getElem_mem (show l.length / 2 < l.length by omega));unfold twL;rw [getD_at (show (l.length - 1) / 2 < l.length by omega),getD_at (show l.length / 2 < l.length by omega)];omega
 have hF:Hid (∀ W,Calls Tryz.prog 31 #[.int .i64 (twL l),.int .i64 2] W (FRes (redZ (twL l) 2,0) W)):=fun W=>by
  have h:=of_any (twL l) 2 (by omega) (by omega) (by omega) (by omega) W;unfold ofS at h;rwa [if_neg (by decide)] at h
 have HT:=lh (fun W (h:SlI W B A l c)=>twice_srt A l c B W h hl h0 HL.out HQ.out);have B0:Hid (Below w.heap.size w w):=Below.refl _ _;clear hs hb hq htw;generalize twL l=m at *;generalize redZ m 2=R at *;obtain ⟨⟨nx,lx⟩,⟨ny,ly⟩⟩:=R;go_enter Tryz.func100,Tryz.ntmps100
 go_wp2_with fail
 refine (rstart_any A l c B _ (S.out.alloc _) HL.out (by omega) h0).mono ?_;rintro e w1 ⟨rfl,rfl⟩;go_wp2_with fail
 refine (HT.out _ (S.out.alloc _)).mono ?_;rintro e w2 ⟨rfl,hb⟩;have Fo:Hid (Ff w2 w.heap.size):=Ff.keep (Ff.fresh (by simp) _ _) (Cf.fresh (by simp) _ _ _ _ _ _ _ _ _) hb;have Ko:Hid (Cf w2 w.heap.size false none 0 0 false none 0 0):=Cf.keep (Cf.fresh (by simp) _ _ _ _ _ _ _ _ _) hb;replace B0:=kB1 B0 hb;clear hb;have hzo:=lF Ko;go_wp2_with fail
 refine (hF.out _).mono ?_;rintro e w3 ⟨A1,c1,A2,c2,rfl,hs1,hs2,hb⟩;replace Fo:=kFf Fo Ko hb;replace Ko:=kF Ko hb;replace B0:=kB B0 hb;clear hb;(try dsimp only at hs1 hs2);(try dsimp only);have Sx:Hid (Sl w3 A1 lx c1):=hs1;have Sy:Hid (Sl w3 A2 ly c2):=hs2;clear hs1 hs2;replace hzo:=lF Ko;obtain ⟨qo0,qo1,qo2,qo3⟩:=Ko.out;obtain ⟨fo0,fo1,fo2,fo3⟩:=Fo.out;go_wp2
 exact bodyPost_ret (v:=.tuple #[.agg #[.bool nx,.slice A1 lx.length c1,.bool ny,.slice A2 ly.length c2],.int .i64 0]) (by simp [results,Tryz.results100,go_sem,qo0,qo1,qo2,qo3]) rfl (fres_store4 (r:=((nx,lx),(ny,ly))) 0 Sx.out Sy.out Ko.out B0.out (by omega) _ _ _ _)
theorem fmed_srt (k1 k2:Bool) (K1 K2:Option Addr) (m1 m2 d1 d2:Nat) (A:Option Addr) (l:List Int) (c B:Nat) (w:World) (hs:SlI w B A l c) (hl:l.length≤19) (h0:0 < l.length) (hb:∀ x∈l,-4294967296≤x∧x≤4294967296) (hq:Srt l) :
  Calls Tryz.prog 48 #[.agg #[.bool k1,.slice K1 m1 d1,.bool k2,.slice K2 m2 d2],.slice A l.length c] w (FRes (redZ (twL l) 2,0) w):=by
 have HM:=lh (fun W (h:SlI W B A l c)=>median_srt A l c B W h hl h0 hb hq);have S:=lh hs;have B0:Hid (Below w.heap.size w w):=Below.refl _ _;clear hs hb hq hl;generalize redZ (twL l) 2=R at *;obtain ⟨⟨nx,lx⟩,⟨ny,ly⟩⟩:=R;go_enter Tryz.func48,Tryz.ntmps48
 go_wp2_with fail
 refine (HM.out _ ((S.out.alloc _).alloc _)).mono ?_;rintro e w3 ⟨A1,c1,A2,c2,rfl,hs1,hs2,hb⟩;have Fo:Hid (Ff w3 (w.heap.size+1)):=Ff.keep (Ff.fresh (by simp) _ _) (Cf.fresh (by simp) _ _ _ _ _ _ _ _ _) hb;have Ko:Hid (Cf w3 (w.heap.size+1) false none 0 0 false none 0 0):=Cf.keep (Cf.fresh (by simp) _ _ _ _ _ _ _ _ _) hb;replace B0:=kB2 B0 hb;clear hb;(try dsimp only at hs1 hs2);(try dsimp only);have Sx:Hid (Sl w3 A1 lx c1):=hs1;have Sy:Hid (Sl w3 A2 ly c2):=hs2;clear hs1 hs2;have hzo:=lF Ko;obtain ⟨qo0,qo1,qo2,qo3⟩:=Ko.out;obtain ⟨fo0,fo1,fo2,fo3⟩:=Fo.out;go_wp2
 exact bodyPost_ret (v:=.tuple #[.agg #[.bool nx,.slice A1 lx.length c1,.bool ny,.slice A2 ly.length c2],.int .i64 0]) (by simp [results,Tryz.results48,go_sem,qo0,qo1,qo2,qo3]) rfl (fres_store4 (r:=((nx,lx),(ny,ly))) 0 Sx.out Sy.out Ko.out B0.out (by omega) _ _ _ _)
end Go.Proofs.YtgnjhlnolihgcaaGreat
import Derived.Test.YtgnjhlnolihgcaaGreatMg9
set_option maxHeartbeats 8000000
set_option maxRecDepth 100000
namespace Go.Proofs.YtgnjhlnolihgcaaGreat
open Lib renaming hid → lh
open Go.RowKit
attribute [local go_sem ↓] Go.wp_at_zero Go.wp_at_succ
def SG.l (s:SG) (k:Nat):List Int:=if k=0 then s.l0 else if k=1 then s.l1 else s.l2
theorem listB_bad {l:List Int} {k:Nat} (hk:k < l.length) (h:outB (l[k]'hk) 1125899906842624=true):listB l=false:=by
 unfold listB
 have:(l.all fun n=>!outB n 1125899906842624)=false:=by
  rw [List.all_eq_false];exact ⟨_,List.getElem_mem hk,by rw [h]; decide⟩
 rw [this,Bool.and_false]
theorem listB_good {l:List Int} (h0:0 < l.length) (h:∀ n∈l,outB n 1125899906842624=false):listB l=true:=by
 unfold listB;have e:l.isEmpty=false:=by cases l with | nil=>simp at h0 | cons _ _=>rfl
 have:(l.all fun n=>!outB n 1125899906842624)=true:=by
  rw [List.all_eq_true];intro n hn;rw [h n hn]; rfl
 rw [this,e]; rfl
def segT (s:SG) (first:Bool) (e:Int):Bool:=segB s && (first || decide (s.F=e))
theorem segT_lt {s:SG} {f:Bool} {e:Int} (h:s.T≤s.F):segT s f e=false:=by
 unfold segT segB; rw [decide_eq_false (show ¬ s.F < s.T by omega)]; rfl
theorem segT_F {s:SG} {f:Bool} {e:Int} (h:outB s.F 5000000000000000=true):segT s f e=false:=by
 unfold segT segB; rw [h]; simp
theorem segT_T {s:SG} {f:Bool} {e:Int} (h:outB s.T 5000000000000000=true):segT s f e=false:=by
 unfold segT segB; rw [h]; simp
theorem segT_e {s:SG} {e:Int} (h:s.F≠e):segT s false e=false:=by
 unfold segT; rw [decide_eq_false h]; simp
theorem segT_l {s:SG} {f:Bool} {e:Int} {k:Nat} (h:listB (s.l k)=false):segT s f e=false:=by
 unfold SG.l at h;unfold segT segB;split at h
 ·rw [h]; simp
 ·split at h
  ·rw [h]; simp
  ·rw [h]; simp
theorem segT_ok {s:SG} {f:Bool} {e:Int} (h1:s.F < s.T) (h2:outB s.F 5000000000000000=false) (h3:outB s.T 5000000000000000=false) (h4:f=true∨s.F=e) (h5:∀ k,k < 3→listB (s.l k)=true):segT s f e=true:=by
 have a:=h5 0 (by omega);have b:=h5 1 (by omega);have c:=h5 2 (by omega);unfold SG.l at a b c;rw [if_pos rfl] at a;rw [if_neg (by omega),if_pos rfl] at b;rw [if_neg (by omega),if_neg (by omega)] at c;unfold segT segB;rw [h2,h3,a,b,c,decide_eq_true h1];rcases h4 with rfl | h4
 ·rfl
 ·rw [decide_eq_true h4]; simp
theorem eseg_any (s:SG) (first:Bool) (e:Int) (B:Nat) (w:World) (hs:OkS w B s) :
  Calls Tryz.prog 198 #[.agg #[.int .i64 s.F,.int .i64 s.T,.slice s.A0 s.l0.length s.c0,.slice s.A1 s.l1.length s.c1,.slice s.A2 s.l2.length s.c2],.bool first,.int .i64 e] w fun x w'=>x=.returned (.bool (segT s first e))∧Below w.heap.size w w':=by
 have HS:=lh hs;clear hs;have C1:=lh (fun W=>outside_any s.F 5000000000000000 (by omega) (by omega) W);have C2:=lh (fun W=>outside_any s.T 5000000000000000 (by omega) (by omega) W);have K0:Hid (BlkV (w.alloc (.cells #[.int .i64 s.F,.int .i64 s.T,.slice s.A0 s.l0.length s.c0,.slice s.A1 s.l1.length s.c1,.slice s.A2 s.l2.length s.c2] 95)) w.heap.size 95 #[.int .i64 s.F,.int .i64 s.T,.slice s.A0 s.l0.length s.c0,.slice s.A1 s.l1.length s.c1,.slice s.A2 s.l2.length s.c2]):=BlkV.fresh rfl _ _;have B0:Hid (Below w.heap.size w (w.alloc (.cells #[.int .i64 s.F,.int .i64 s.T,.slice s.A0 s.l0.length s.c0,.slice s.A1 s.l1.length s.c1,.slice s.A2 s.l2.length s.c2] 95))):=blw1 _ _;by_cases hlt:s.T≤s.F
 ·have t1:decide (s.T≤s.F)=true:=decide_eq_true hlt;have E:Hid (segT s first e=false):=segT_lt hlt;clear hlt K0;go_enter Tryz.func198,Tryz.ntmps198
  go_wp2
  go_ret
  exact ⟨by rw [E.out]; rfl,B0.out⟩
 ·have t1:decide (s.T≤s.F)=false:=decide_eq_false hlt;have Hlt:=lh (show s.F < s.T by omega);clear hlt
  cases hF:outB s.F 5000000000000000 with
  | true=>
   have E:Hid (segT s first e=false):=segT_F hF;rw [hF] at C1;have HF:=lh hF;clear hF;go_enter Tryz.func198,Tryz.ntmps198
   go_wp2_with fail
   refine (C1.out _).mono ?_;rintro x w1 ⟨rfl,hb⟩;have K1:=lh (K0.out.keep hb);have B1:=lh (q0a B0.out hb);clear hb K0 B0;have qa0:=K1.out.at_ 0 rfl;have qa1:=K1.out.at_ 1 rfl;have qa2:=K1.out.at_ 2 rfl;have qa3:=K1.out.at_ 3 rfl;have qa4:=K1.out.at_ 4 rfl;go_wp2
   go_ret
   exact ⟨by rw [E.out]; rfl,B1.out⟩
  | false=>
   cases hT:outB s.T 5000000000000000 with
   | true=>
    have E:Hid (segT s first e=false):=segT_T hT;rw [hT] at C2;have HT:=lh hT;clear hT;rw [hF] at C1;have HF:=lh hF;clear hF;go_enter Tryz.func198,Tryz.ntmps198
    go_wp2_with fail
    refine (C1.out _).mono ?_;rintro x w1 ⟨rfl,hb⟩;have K1:=lh (K0.out.keep hb);have B1:=lh (q0a B0.out hb);clear hb K0 B0;have qa0:=K1.out.at_ 0 rfl;have qa1:=K1.out.at_ 1 rfl;have qa2:=K1.out.at_ 2 rfl;have qa3:=K1.out.at_ 3 rfl;have qa4:=K1.out.at_ 4 rfl;go_wp2_with fail
    refine (C2.out _).mono ?_;rintro x w2 ⟨rfl,hb⟩;have K2:=lh (K1.out.keep hb);have B2:=lh (q0a B1.out hb);clear hb K1 B1 qa0 qa1 qa2 qa3 qa4;have qb0:=K2.out.at_ 0 rfl;have qb1:=K2.out.at_ 1 rfl;have qb2:=K2.out.at_ 2 rfl;have qb3:=K2.out.at_ 3 rfl;have qb4:=K2.out.at_ 4 rfl;go_wp2
    go_ret
    exact ⟨by rw [E.out]; rfl,B2.out⟩
   | false=>
    by_cases hfe:first=false∧s.F≠e
    ·obtain ⟨rfl,hne⟩:=hfe;have t2:decide (s.F=e)=false:=decide_eq_false hne;have E:Hid (segT s false e=false):=segT_e hne;rw [hT] at C2;have HT:=lh hT;clear hT;rw [hF] at C1;have HF:=lh hF;clear hF;go_enter Tryz.func198,Tryz.ntmps198
     go_wp2_with fail
     refine (C1.out _).mono ?_;rintro x w1 ⟨rfl,hb⟩;have K1:=lh (K0.out.keep hb);have B1:=lh (q0a B0.out hb);clear hb K0 B0;have qa0:=K1.out.at_ 0 rfl;have qa1:=K1.out.at_ 1 rfl;have qa2:=K1.out.at_ 2 rfl;have qa3:=K1.out.at_ 3 rfl;have qa4:=K1.out.at_ 4 rfl;go_wp2_with fail
     refine (C2.out _).mono ?_;rintro x w2 ⟨rfl,hb⟩;have K2:=lh (K1.out.keep hb);have B2:=lh (q0a B1.out hb);clear hb K1 B1 qa0 qa1 qa2 qa3 qa4;have qb0:=K2.out.at_ 0 rfl;have qb1:=K2.out.at_ 1 rfl;have qb2:=K2.out.at_ 2 rfl;have qb3:=K2.out.at_ 3 rfl;have qb4:=K2.out.at_ 4 rfl;go_wp2
     go_ret
     exact ⟨by rw [E.out]; rfl,B2.out⟩
    ·have Hfe:Hid (first=true∨s.F=e):=by
      cases first with
      | true=>exact .inl rfl
      | false=>exact .inr (Decidable.byContradiction fun h=>hfe ⟨rfl,h⟩)
     clear hfe;rw [hT] at C2;have HT:=lh hT;clear hT;rw [hF] at C1;have HF:=lh hF;clear hF;go_enter Tryz.func198,Tryz.ntmps198
     go_wp2_with fail
     refine (C1.out _).mono ?_;rintro x w1 ⟨rfl,hb⟩;have K1:=lh (K0.out.keep hb);have B1:=lh (q0a B0.out hb);clear hb K0 B0;have qa0:=K1.out.at_ 0 rfl;have qa1:=K1.out.at_ 1 rfl;have qa2:=K1.out.at_ 2 rfl;have qa3:=K1.out.at_ 3 rfl;have qa4:=K1.out.at_ 4 rfl;go_wp2_with fail
     refine (C2.out _).mono ?_;rintro x w2 ⟨rfl,hb⟩;have K2:=lh (K1.out.keep hb);have B2:=lh (q0a B1.out hb);clear hb K1 B1 qa0 qa1 qa2 qa3 qa4;have qb0:=K2.out.at_ 0 rfl;have qb1:=K2.out.at_ 1 rfl;have qb2:=K2.out.at_ 2 rfl;have qb3:=K2.out.at_ 3 rfl;have qb4:=K2.out.at_ 4 rfl;have HS2:=lh (HS.out.below B2.out);clear HS C1 C2
     have Hg:first=true∨first=false∧s.F=e:=by
      cases first with
      | true=>exact .inl rfl
      | false=>exact .inr ⟨rfl,by rcases Hfe.out with h | h <;> first | exact h | cases h⟩
     clear Hfe;rcases Hg with rfl | ⟨rfl,rfl⟩
     all_goals
      go_wp2
      go_loopw [38] (fun s38 wr=>∃ k:Nat,k≤3∧s38=.int .i64 k∧(∀ j,j < k→listB (s.l j)=true)∧Below w.heap.size w wr∧Below w2.heap.size w2 wr) (fun v _=>3 - (intOf v).toNat)
      case atStart=>exact ⟨0,by omega,rfl,fun j hj=>by omega,B2.out,Below.refl _ _⟩
      case round=>
       obtain ⟨k,hk,rfl,hall,hb1,hb2⟩:=hrel;have ALL:=lh hall;have HB:=lh hb1;have HS3:=lh (HS2.out.below hb2);have HB2:=lh hb2;clear hall hb1 hb2;by_cases hk3:k < 3
       ·have tk:decide ((k:Int) < 3)=true:=decide_eq_true (by omega)
        obtain ⟨A,l,c,hidx,hsl,hl⟩:∃ A l c,(∀ W,(Instr.index 93 (.agg #[.slice s.A0 s.l0.length s.c0,.slice s.A1 s.l1.length s.c1,.slice s.A2 s.l2.length s.c2]) (.int .i64 k)).run Tryz.prog W=.ok (.slice A l.length c) W)∧SlI wr B A l c∧s.l k=l:=by
         have hk':k=0∨k=1∨k=2:=(by omega);rcases hk' with rfl | rfl | rfl
         ·exact ⟨_,_,_,fun W=>by rfl,HS3.out.i0,rfl⟩
         ·exact ⟨_,_,_,fun W=>by rfl,HS3.out.i1,rfl⟩
         ·exact ⟨_,_,_,fun W=>by rfl,HS3.out.i2,rfl⟩
        have HL:=lh hl;have SL:=lh hsl;have hm:=hsl.len;clear hl hsl HS3;rcases Nat.eq_zero_or_pos l.length with hz | hpos
        ·have E:Hid (∀ f e,segT s f e=false):=fun f e=>segT_l (k:=k) (by rw [HL.out,List.eq_nil_of_length_eq_zero hz]; rfl);go_wp2
         go_ret
         exact ⟨by rw [E.out]; rfl,HB.out⟩
        ·have tz:((l.length:Int) == 0)=false:=(by rw [beq_eq_false_iff_ne]; omega);go_wp2
         go_loopw [46] (fun s46 wv=>∃ j:Nat,j≤l.length∧s46=.int .i64 j∧(∀ n∈l.take j,outB n 1125899906842624=false)∧Below wr.heap.size wr wv) (fun v _=>l.length - (intOf v).toNat)
         case atStart=>exact ⟨0,Nat.zero_le _,rfl,by simp,Below.refl _ _⟩
         case round=>
          obtain ⟨j,hj,rfl,hall,hbv⟩:=hrel;have ALL2:=lh hall;have HV:=lh hbv;clear hall hbv;by_cases hjl:j < l.length
          ·have S2:=SL.out.below HV.out;obtain ⟨b,o,rfl,-,q0⟩:=S2.at_ hjl;have hbd:=S2.lim.at_ hjl;clear S2;have C3:=lh (fun W=>outside_any (l[j]'hjl) 1125899906842624 (by omega) (by omega) W);have HBAD:Hid (outB (l[j]'hjl) 1125899906842624=true→listB l=false):=fun h=>listB_bad hjl h;have HGOOD:Hid (outB (l[j]'hjl) 1125899906842624=false→∀ n∈l.take (j+1),outB n 1125899906842624=false):=fun h=>q1p hjl ALL2.out h;generalize l[j]'hjl=y at *
           cases hO:outB y 1125899906842624 with
           | true=>
            have E:Hid (∀ f e,segT s f e=false):=fun f e=>segT_l (k:=k) (by rw [HL.out]; exact HBAD.out hO);rw [hO] at C3;have HO:=lh hO;clear hO;go_wp2_with fail
            refine (C3.out _).mono ?_;rintro x w3 ⟨rfl,hb⟩;have HV3:=lh (q0a HV.out hb);clear hb q0;go_wp2
            go_ret
            exact ⟨by rw [E.out]; rfl,q0a HB.out HV3.out⟩
           | false=>
            rw [hO] at C3;have HO:=lh hO;clear hO;go_wp2_with fail
            refine (C3.out _).mono ?_;rintro x w3 ⟨rfl,hb⟩;have HV3:=lh (q0a HV.out hb);clear hb q0;go_wp2
            go_roundw
            case rel=>exact ⟨j+1,by omega,by go_num,HGOOD.out HO.out,HV3.out⟩
            case measure=>simp [intOf]; omega
          ·obtain rfl:j=l.length:=by omega
           have HG:Hid (listB l=true):=listB_good hpos (by have:=ALL2.out; rwa [List.take_length] at this);go_wp2
           go_roundw
           case rel=>exact ⟨k+1,by omega,by go_num,fun i hi=>by rcases Nat.lt_succ_iff_lt_or_eq.1 hi with h | rfl <;> first | exact ALL.out i h | (rw [HL.out]; exact HG.out),q0a HB.out HV.out,q0a HB2.out HV.out⟩
           case measure=>simp [intOf]; omega
       ·obtain rfl:k=3:=by omega
        have E:Hid (∀ f e,f=true∨s.F=e→segT s f e=true):=fun f e h=>segT_ok Hlt.out HF.out HT.out h ALL.out;go_wp2
        go_ret
        first | exact ⟨by rw [E.out _ _ (.inl rfl)]; rfl,HB.out⟩ | exact ⟨by rw [E.out _ _ (.inr rfl)]; rfl,HB.out⟩
end Go.Proofs.YtgnjhlnolihgcaaGreat
import Derived.Test.YtghallnooijfhaaGreatMg13
import Derived.Test.YtghallnooijfhaaGreatEphR
import Derived.Deep.CutRange
import Derived.Deep.RegionHeld
set_option maxHeartbeats 8000000
set_option maxRecDepth 100000
namespace Go.Proofs.YtghallnooijfhaaGreat
open List renaming getElem_toArray → z0q, getElem_cons_zero → z1q, getElem_cons_succ → z2q, setIfInBounds_toArray → z3q, set_cons_zero → z4q, set_cons_succ → z5q
open Lib renaming hid → lh
open Go.RowKit
attribute [local go_sem ↓] Go.wp_at_zero Go.wp_at_succ
def okC (k:Nat) (b:UInt8):Bool:=lowB b || (decide (k≠0) && letB b)
theorem low_let {b:UInt8} (h:lowB b=true):letB b=true:=by unfold letB; rw [h]; rfl
theorem nm_good {nm:List UInt8} (h:∀ j (hj:j < nm.length),okC j (nm[j]'hj)=true):nmB nm=(decide (1≤nm.length) && decide (nm.length≤24)):=by
  cases nm with
  | nil=>rfl
  | cons b t=>
    have h0:=h 0 (by simp);unfold okC at h0;simp at h0
    have ht:t.all letB=true:=by
      rw [List.all_eq_true];intro x hx;obtain ⟨j,hj,rfl⟩:=List.getElem_of_mem hx;have h1:=h (j+1) (by simpa using hj);unfold okC at h1;simp at h1;rcases h1 with h1 | h1
      · exact low_let h1
      · exact h1
    show (lowB b && t.all letB && decide (t.length < 24))=_
    rw [h0,ht];have e1:decide (1≤(b :: t).length)=true:=decide_eq_true (by simp);rw [e1];simp only [Bool.true_and,List.length_cons];exact decide_eq_decide.2 (by omega)
theorem nm_bad {nm:List UInt8} {k:Nat} (hk:k < nm.length) (h:okC k (nm[k]'hk)=false):nmB nm=false:=by
  cases nm with
  | nil=>rfl
  | cons b t=>
    unfold okC at h;simp only [Bool.or_eq_false_iff] at h;show (lowB b && t.all letB && decide (t.length < 24))=_
    cases k with
    | zero=>have:=h.1; simp only [z1q] at this; rw [this]; rfl
    | succ k=>
      have h1:=h.2;simp at h1
      have:t.all letB=false:=by
        rw [List.all_eq_false];exact ⟨_,List.getElem_mem (by simpa using hk),by rw [h1]; decide⟩
      rw [this]; simp
theorem rname_any (nm:List UInt8) (hl:nm.length≤140737488355328) (w:World) :
    Calls Tryz.prog 185 #[.string ⟨nm.toArray⟩] w fun e w'=>e=.returned (.bool (nmB nm))∧w'=w:=by
  have hsz:(ByteArray.mk nm.toArray).size=nm.length:=(by simp [ByteArray.size]);have hG:=lh (nm_good (nm:=nm));have hBd:=lh (fun k (hk:k < nm.length)=>nm_bad hk);generalize hR:nmB nm=RR at *;clear hR;go_enter Tryz.func185,Tryz.ntmps185
  go_wp2
  go_loopw [3] (fun s3 wr=>∃ k:Nat,k≤nm.length∧s3=.int .i64 k∧(∀ j (hj:j < nm.length),j < k→okC j (nm[j]'hj)=true)∧wr=w) (fun v _=>nm.length - (intOf v).toNat)
  case atStart=>exact ⟨0,Nat.zero_le _,rfl,fun j hj h=>by omega,rfl⟩
  case round=>
    obtain ⟨k,hk,rfl,hall,hw⟩:=hrel;replace hw:=hw.symm;subst hw;have ALL:=lh hall;clear hall;by_cases hlt:k < nm.length
    · have tk':decide ((k:Int) < (nm.length:Int))=true:=decide_eq_true (by omega);have hget:(ByteArray.mk nm.toArray)[k]'(by simp [ByteArray.size]; exact hlt)=nm[k]'hlt:=rfl;have hB:=lh (hBd.out k hlt)
      have hN:Hid (okC k (nm[k]'hlt)=true→∀ j (hj:j < nm.length),j < k+1→okC j (nm[j]'hj)=true):=fun h j hj hjk=>by
        rcases Nat.lt_succ_iff_lt_or_eq.1 hjk with h3 | rfl
        · exact ALL.out j hj h3
        · exact h
      generalize nm[k]'hlt=b at *;have hidx:(0:Int)≤(k:Int)∧(k:Int) < ((ByteArray.mk nm.toArray).size:Int):=(by rw [hsz]; omega);clear hBd;go_upto_region 4 with fail
      go_cut [4] from 5 to 44 (fun s4 wx=>s4=.bool (lowB b)∧wx=w)
      case first=>
        by_cases h1:97≤b.toNat
        · have z1:decide (97≤b.toNat)=true:=decide_eq_true h1;by_cases h2:b.toNat≤122
          · have z2:decide (b.toNat≤122)=true:=decide_eq_true h2;go_wp2
            go_meet
            exact ⟨congrArg Value.bool (by unfold lowB; simp [h1,h2] <;> omega),rfl⟩
          · have z2:decide (b.toNat≤122)=false:=decide_eq_false h2;go_wp2
            go_meet
            exact ⟨congrArg Value.bool (by unfold lowB; simp [h1,h2] <;> omega),rfl⟩
        · have z1:decide (97≤b.toNat)=false:=decide_eq_false h1;go_wp2
          go_meet
          exact ⟨congrArg Value.bool (by unfold lowB; simp [h1] <;> omega),rfl⟩
      case rest=>
        obtain ⟨rfl,hw⟩:=hcut;replace hw:=hw.symm;subst hw;have OKD:okC k b=(lowB b || (decide (k≠0) && letB b)):=rfl;go_upto_region 5 with fail
        go_cut [4,44] from 5 to 44 (fun s4 s wx=>s4=.bool (lowB b)∧s=.bool (!okC k b)∧wx=w)
        case first=>
          cases hz:lowB b with
          | true=>
            go_wp2
            go_meet
            exact ⟨congrArg Value.bool hz.symm,congrArg Value.bool (by rw [OKD,hz]; rfl),rfl⟩
          | false=>
            by_cases hk0:k=0
            · have zk:((k:Int) == 0)=true:=(by rw [beq_iff_eq]; omega);go_wp2
              go_meet
              exact ⟨congrArg Value.bool hz.symm,congrArg Value.bool (by rw [OKD,hz]; simp [hk0]),rfl⟩
            · have zk:((k:Int) == 0)=false:=(by rw [beq_eq_false_iff_ne]; omega);have LT:letB b=((decide (48≤b.toNat) && decide (b.toNat≤57)) || decide (b.toNat=45)):=(by unfold letB; rw [hz]; rfl);by_cases h3:b.toNat < 48 <;> by_cases h4:57 < b.toNat <;> by_cases h5:b.toNat=45
              all_goals first
                | (exfalso; omega)
                | (have z3:(b.toNat:Int) < 48 ↔ b.toNat < 48:=by omega
                   have z4:(57:Int) < (b.toNat:Int) ↔ 57 < b.toNat:=(by omega);have z5:(b.toNat:Int)=45 ↔ b.toNat=45:=(by omega);have z6:((b.toNat:Int) != 45) = !(decide (b.toNat=45)):=(by by_cases h:b.toNat=45 <;> simp [h] <;> omega);go_wp2
                   go_meet
                   exact ⟨congrArg Value.bool hz.symm,congrArg Value.bool (by rw [OKD,hz,LT]; simp [hk0,h3,h4,h5] <;> omega),rfl⟩)
        case rest=>
          obtain ⟨rfl,rfl,hw⟩:=hcut;replace hw:=hw.symm;subst hw;clear OKD
          cases hz:okC k b with
          | false=>
            have E:=lh (hB.out hz);go_wp2
            go_ret
            exact ⟨by rw [E.out]; rfl,(by first | rfl | trivial)⟩
          | true=>
            have E:=lh (hN.out hz);go_wp2
            go_roundw
            case rel=>exact ⟨k+1,by omega,by go_num,E.out,(by first | rfl | trivial)⟩
            case measure=>simp [intOf]; omega
    · obtain rfl:k=nm.length:=by omega
      have tk':decide ((nm.length:Int) < (nm.length:Int))=false:=decide_eq_false (by omega);have E:=lh (hG.out (fun j hj=>ALL.out j hj hj));by_cases h1:1≤nm.length
      · have z1:decide (1≤(nm.length:Int))=true:=decide_eq_true (by omega);have y1:decide (1≤nm.length)=true:=decide_eq_true h1;by_cases h2:nm.length≤24
        · have z2:decide ((nm.length:Int)≤24)=true:=decide_eq_true (by omega);have y2:decide (nm.length≤24)=true:=decide_eq_true h2;go_wp2
          go_ret
          exact ⟨by rw [E.out,y1,y2]; rfl,(by first | rfl | trivial)⟩
        · have z2:decide ((nm.length:Int)≤24)=false:=decide_eq_false (by omega);have y2:decide (nm.length≤24)=false:=decide_eq_false h2;go_wp2
          go_ret
          exact ⟨by rw [E.out,y1,y2]; rfl,(by first | rfl | trivial)⟩
      · have z1:decide (1≤(nm.length:Int))=false:=decide_eq_false (by omega);have y1:decide (1≤nm.length)=false:=decide_eq_false h1;go_wp2
        go_ret
        exact ⟨by rw [E.out,y1]; rfl,(by first | rfl | trivial)⟩
theorem rseg_any (s:SG) (B:Nat) (w:World) (hs:OkS w B s) :
    Calls Tryz.prog 186 #[.agg #[.int .i64 s.F,.int .i64 s.T,.slice s.A0 s.l0.length s.c0,.slice s.A1 s.l1.length s.c1,.slice s.A2 s.l2.length s.c2]] w fun e w'=>e=.returned (.bool (segB s))∧Below w.heap.size w w':=by
  have B0:Hid (Below w.heap.size w (w.alloc (.cells #[.int .i64 s.F,.int .i64 s.T,.slice s.A0 s.l0.length s.c0,.slice s.A1 s.l1.length s.c1,.slice s.A2 s.l2.length s.c2] 44))):=blw1 _ _;have K0:Hid (BlkV (w.alloc (.cells #[.int .i64 s.F,.int .i64 s.T,.slice s.A0 s.l0.length s.c0,.slice s.A1 s.l1.length s.c1,.slice s.A2 s.l2.length s.c2] 44)) w.heap.size 44 #[.int .i64 s.F,.int .i64 s.T,.slice s.A0 s.l0.length s.c0,.slice s.A1 s.l1.length s.c1,.slice s.A2 s.l2.length s.c2]):=BlkV.fresh rfl _ _;have S:=lh (hs.below B0.out);clear hs
  have EB1:Hid ((decide (s.T≤s.F) || decide (s.F < -5000000000000000) || decide (5000000000000000 < s.T))=true→segB s=false):=fun h=>by
    unfold segB outB;simp only [Bool.or_eq_true,decide_eq_true_eq] at h;simp only [Bool.and_eq_false_iff,Bool.not_eq_false',Bool.or_eq_true,decide_eq_false_iff_not,decide_eq_true_eq];omega
  have EB2:Hid (∀ k,k < 3→q2d (s.l k)=false→segB s=false):=fun k hk h=>by
    have h2:=segT_l (s:=s) (f:=true) (e:=0) h;unfold segT at h2;simpa using h2
  have EG:Hid ((decide (s.T≤s.F) || decide (s.F < -5000000000000000) || decide (5000000000000000 < s.T))=false→(∀ k,k < 3→q2d (s.l k)=true)→segB s=true):=fun h h5=>by
    simp only [Bool.or_eq_false_iff,decide_eq_false_iff_not] at h;have h2:=segT_ok (s:=s) (f:=true) (e:=0) (by omega) (by unfold outB; simp; omega) (by unfold outB; simp; omega) (.inl rfl) h5;unfold segT at h2;simpa using h2
  go_enter Tryz.func186,Tryz.ntmps186
  go_upto_region 1 with fail
  generalize hw0:w.alloc (.cells #[.int .i64 s.F,.int .i64 s.T,.slice s.A0 s.l0.length s.c0,.slice s.A1 s.l1.length s.c1,.slice s.A2 s.l2.length s.c2] 44)=w0 at *;clear hw0;have k0:=K0.out.at_ 0 rfl;have k1:=K0.out.at_ 1 rfl;have k2:=K0.out.at_ 2 rfl;have k3:=K0.out.at_ 3 rfl;have k4:=K0.out.at_ 4 rfl;have hlk:=K0.out.lt;go_cut [19] from 5 to 19 (fun sx wx=>sx=.bool (decide (s.T≤s.F) || decide (s.F < -5000000000000000) || decide (5000000000000000 < s.T))∧wx=w0)
  case first=>
    by_cases c1:s.T≤s.F
    · have tc1:decide (s.T≤s.F)=true:=decide_eq_true (by omega);go_wp2
      go_meet
      exact ⟨congrArg Value.bool (by first | rfl | (simp [c1])),rfl⟩
    · have tc1:decide (s.T≤s.F)=false:=decide_eq_false (by omega);by_cases c2:s.F < -5000000000000000
      · have tc2:decide (s.F < -5000000000000000)=true:=decide_eq_true (by omega);go_wp2
        go_meet
        exact ⟨congrArg Value.bool (by first | rfl | (simp [c2])),rfl⟩
      · have tc2:decide (s.F < -5000000000000000)=false:=decide_eq_false (by omega);by_cases c3:5000000000000000 < s.T
        · have tc3:decide (5000000000000000 < s.T)=true:=decide_eq_true (by omega);go_wp2
          go_meet
          exact ⟨congrArg Value.bool (by first | rfl | (simp [c3])),rfl⟩
        · have tc3:decide (5000000000000000 < s.T)=false:=decide_eq_false (by omega);go_wp2
          go_meet
          exact ⟨congrArg Value.bool (by first | rfl | (simp [c1,c2,c3] <;> omega)),rfl⟩
  case rest=>
    obtain ⟨rfl,hw⟩:=hcut;replace hw:=hw.symm;subst hw;generalize hd:(decide (s.T≤s.F) || decide (s.F < -5000000000000000) || decide (5000000000000000 < s.T))=dd at *
    cases dd with
    | true=>
      have E:=lh (EB1.out rfl);go_wp2
      go_ret
      exact ⟨by rw [E.out]; rfl,B0.out⟩
    | false=>
      replace EG:=lh (EG.out rfl);clear EB1 hd;go_wp2
      go_loopw [3] (fun s3 wv=>∃ i:Nat,i≤3∧s3=.int .i64 i∧(∀ n,n < i→q2d (s.l n)=true)∧wv=w0) (fun v _=>3 - (intOf v).toNat)
      case atStart=>exact ⟨0,by omega,rfl,by omega,rfl⟩
      case round=>
        obtain ⟨i,hi,rfl,hall,hw⟩:=hrel;replace hw:=hw.symm;subst hw;have ALL:=lh hall;clear hall;by_cases hi3:i < 3
        · have ti:decide ((i:Int) < 3)=true:=decide_eq_true (by omega)
          obtain ⟨A,l,c,pc,hsl,hl⟩:∃ A l c,w0.cell? ⟨w.heap.size,2+i,none⟩=some (.slice A l.length c)∧SlI w0 B A l c∧s.l i=l:=by
            have hk':i=0∨i=1∨i=2:=(by omega);rcases hk' with rfl | rfl | rfl
            · exact ⟨_,_,_,k2,S.out.i0,rfl⟩
            · exact ⟨_,_,_,k3,S.out.i1,rfl⟩
            · exact ⟨_,_,_,k4,S.out.i2,rfl⟩
          have SL:=lh hsl;have hml:=hsl.len;have NX:Hid (q2d l=true→∀ n,n < i+1→q2d (s.l n)=true):=fun h=>below3 ALL.out (by rw [hl]; exact h);have NB:Hid (q2d l=false→segB s=false):=fun h=>EB2.out i hi3 (by rw [hl]; exact h);clear hsl hl k0 k1 k2 k3 k4;by_cases hl0:l.length=0
          · have z0:((l.length:Int) == 0)=true:=(by rw [beq_iff_eq]; omega);have E:=lh (NB.out (by rw [List.eq_nil_of_length_eq_zero hl0]; rfl));go_wp2
            go_ret
            exact ⟨by rw [E.out]; rfl,B0.out⟩
          · have z0:((l.length:Int) == 0)=false:=(by rw [beq_eq_false_iff_ne]; omega);go_wp2
            go_loopw [4] (fun s4 wv=>∃ j:Nat,j≤l.length∧s4=.int .i64 j∧(∀ n∈l.take j,outB n 1125899906842624=false)∧wv=w0) (fun v _=>l.length - (intOf v).toNat)
            case atStart=>exact ⟨0,Nat.zero_le _,rfl,by simp,rfl⟩
            case round=>
              obtain ⟨j,hj,rfl,hall2,hw⟩:=hrel;replace hw:=hw.symm;subst hw;have ALL2:=lh hall2;clear hall2;by_cases hjl:j < l.length
              · have tj:decide ((j:Int) < (l.length:Int))=true:=decide_eq_true (by omega);have hG2:Hid (outB (l[j]'hjl) 1125899906842624=false→∀ n∈l.take (j+1),outB n 1125899906842624=false):=fun h=>q1f hjl ALL2.out h;have hB2:Hid (outB (l[j]'hjl) 1125899906842624=true→q2d l=false):=fun h=>listB_bad hjl h;obtain ⟨b,o,rfl,-,q0⟩:=SL.out.at_ hjl;generalize l[j]'hjl=n at *;go_upto_region 11 with fail
                go_cut [56] from 30 to 56 (fun sx wx=>sx=.bool (outB n 1125899906842624)∧wx=w0)
                case first=>
                  by_cases c1:n < -1125899906842624
                  · have tc1:decide (n < -1125899906842624)=true:=decide_eq_true (by omega);go_wp2
                    go_meet
                    exact ⟨congrArg Value.bool (by first | rfl | (simp [outB,c1])),rfl⟩
                  · have tc1:decide (n < -1125899906842624)=false:=decide_eq_false (by omega);by_cases c2:1125899906842624 < n
                    · have tc2:decide (1125899906842624 < n)=true:=decide_eq_true (by omega);go_wp2
                      go_meet
                      exact ⟨congrArg Value.bool (by first | rfl | (simp [outB,c2])),rfl⟩
                    · have tc2:decide (1125899906842624 < n)=false:=decide_eq_false (by omega);go_wp2
                      go_meet
                      exact ⟨congrArg Value.bool (by first | rfl | (simp [outB,c1,c2] <;> omega)),rfl⟩
                case rest=>
                  obtain ⟨rfl,hw⟩:=hcut;replace hw:=hw.symm;subst hw
                  cases hz:outB n 1125899906842624 with
                  | true=>
                    have E:=lh (NB.out (hB2.out hz));go_wp2
                    go_ret
                    exact ⟨by rw [E.out]; rfl,B0.out⟩
                  | false=>
                    have E:=lh (hG2.out hz);go_wp2
                    go_roundw
                    case rel=>exact ⟨j+1,by omega,by go_num,E.out,(by first | rfl | trivial)⟩
                    case measure=>simp [intOf]; omega
              · obtain rfl:j=l.length:=by omega
                have tj:decide ((l.length:Int) < (l.length:Int))=false:=decide_eq_false (by omega);have E:=lh (NX.out (listB_good (by omega) (by have:=ALL2.out; rwa [List.take_length] at this)));go_wp2
                go_roundw
                case rel=>exact ⟨i+1,by omega,by go_num,E.out,(by first | rfl | trivial)⟩
                case measure=>simp [intOf]; omega
        · obtain rfl:i=3:=by omega
          have ti:decide (((3:Nat):Int) < 3)=false:=rfl;have E:=lh (EG.out ALL.out);go_wp2
          go_ret
          exact ⟨by rw [E.out]; rfl,B0.out⟩
theorem wrap_nat {n:Nat} (h:n≤4398046511104):IntKind.i64.wrap (n:Int)=(n:Int):=by
  rw [IntKind.wrap_i64]; omega
open Classical in
noncomputable def goodB (b:BG):Bool:=decide (GoodB b)
open Classical in
theorem goodB_t {b:BG} (h:GoodB b):goodB b=true:=by unfold goodB; exact decide_eq_true h
open Classical in
theorem goodB_f {b:BG} (h:¬ GoodB b):goodB b=false:=by unfold goodB; exact decide_eq_false h
theorem rbody_any (y:BG) (B:Nat) (w:World) (hs:OkB w B y) :
    Calls Tryz.prog 152 #[.agg #[.string ⟨y.nm.toArray⟩,.int .i64 y.gm,.int .i64 y.rd,.slice y.A y.ss.length y.c]] w fun e w'=>e=.returned (.bool (goodB y))∧Below w.heap.size w w':=by
  have hnl:=hs.nl;have hml:=hs.sl.len;have S:=lh hs.sl;obtain ⟨yA,hyA⟩:∃ a,y.A=a:=⟨_,rfl⟩;rw [hyA] at S ⊢;clear hs hyA;have B0:Hid (Below w.heap.size w (w.alloc (.cells #[.string ⟨y.nm.toArray⟩,.int .i64 y.gm,.int .i64 y.rd,.slice yA y.ss.length y.c] 40))):=blw1 _ _;have K0:Hid (BlkV (w.alloc (.cells #[.string ⟨y.nm.toArray⟩,.int .i64 y.gm,.int .i64 y.rd,.slice yA y.ss.length y.c] 40)) w.heap.size 40 #[.string ⟨y.nm.toArray⟩,.int .i64 y.gm,.int .i64 y.rd,.slice yA y.ss.length y.c]):=BlkV.fresh rfl _ _;have CN:=lh (rname_any y.nm hnl (w.alloc (.cells #[.string ⟨y.nm.toArray⟩,.int .i64 y.gm,.int .i64 y.rd,.slice yA y.ss.length y.c] 40)));have SW:=lh (fun W (h:Below w.heap.size w W)=>S.out.below h);have NG:=lh (goodB_f (b:=y));have GG:=lh (goodB_t (b:=y));generalize goodB y=gd at *;clear S;go_enter Tryz.func152,Tryz.ntmps152
  cases hn:nmB y.nm with
  | false=>
    have E:=lh (NG.out fun g=>by rw [g.nm] at hn; cases hn);rw [hn] at CN;clear hn;go_wp2_with fail
    generalize hw0:w.alloc (.cells #[.string ⟨y.nm.toArray⟩,.int .i64 y.gm,.int .i64 y.rd,.slice yA y.ss.length y.c] 40)=w0 at *;clear hw0;refine CN.out.mono ?_;rintro e w1 ⟨rfl,hw⟩;replace hw:=hw.symm;subst hw;have k0:=K0.out.at_ 0 rfl;have k1:=K0.out.at_ 1 rfl;have k2:=K0.out.at_ 2 rfl;have k3:=K0.out.at_ 3 rfl;have hlk:=K0.out.lt;go_wp2
    go_ret
    exact ⟨by rw [E.out]; rfl,B0.out⟩
  | true=>
    have HN:=lh hn;rw [hn] at CN;clear hn;go_wp2_with fail
    generalize hw0:w.alloc (.cells #[.string ⟨y.nm.toArray⟩,.int .i64 y.gm,.int .i64 y.rd,.slice yA y.ss.length y.c] 40)=w0 at *;clear hw0;refine CN.out.mono ?_;rintro e w1 ⟨rfl,hw⟩;replace hw:=hw.symm;subst hw;have k0:=K0.out.at_ 0 rfl;have k1:=K0.out.at_ 1 rfl;have k2:=K0.out.at_ 2 rfl;have k3:=K0.out.at_ 3 rfl;have hlk:=K0.out.lt;by_cases c1:y.gm < 0
    · have uc1:decide (y.gm < 0)=true:=decide_eq_true c1;have E:=lh (NG.out fun g=>by have:=g.g1; omega);go_wp2
      go_ret
      exact ⟨by rw [E.out]; rfl,B0.out⟩
    · have uc1:decide (y.gm < 0)=false:=decide_eq_false c1;by_cases c2:1152921504606846976 < y.gm
      · have uc2:decide (1152921504606846976 < y.gm)=true:=decide_eq_true c2;have E:=lh (NG.out fun g=>by have:=g.g2; omega);go_wp2
        go_ret
        exact ⟨by rw [E.out]; rfl,B0.out⟩
      · have uc2:decide (1152921504606846976 < y.gm)=false:=decide_eq_false c2;by_cases c3:y.rd < 0
        · have uc3:decide (y.rd < 0)=true:=decide_eq_true c3;have E:=lh (NG.out fun g=>by have:=g.r1; omega);go_wp2
          go_ret
          exact ⟨by rw [E.out]; rfl,B0.out⟩
        · have uc3:decide (y.rd < 0)=false:=decide_eq_false c3;by_cases c4:1125899906842624 < y.rd
          · have uc4:decide (1125899906842624 < y.rd)=true:=decide_eq_true c4;have E:=lh (NG.out fun g=>by have:=g.r2; omega);go_wp2
            go_ret
            exact ⟨by rw [E.out]; rfl,B0.out⟩
          · have uc4:decide (1125899906842624 < y.rd)=false:=decide_eq_false c4;by_cases c5:y.ss.length=0
            · have uc5:((y.ss.length:Int) == 0)=true:=(by rw [beq_iff_eq]; omega);have E:=lh (NG.out fun g=>by have:=g.ne; omega);go_wp2
              go_ret
              exact ⟨by rw [E.out]; rfl,B0.out⟩
            · have uc5:((y.ss.length:Int) == 0)=false:=(by rw [beq_eq_false_iff_ne]; omega);go_wp2
              go_loopw [3] (fun s3 wv=>∃ k:Nat,k≤y.ss.length∧s3=.int .i64 k∧ChnK y.ss k∧Below w0.heap.size w0 wv) (fun v _=>y.ss.length - (intOf v).toNat)
              case atStart=>exact ⟨0,Nat.zero_le _,rfl,ChnK.zero _,Below.refl _ _⟩
              case round=>
                generalize wr=wv at *;clear k0 k1 k2 k3 hlk;obtain ⟨k,hk,rfl,hcn,hbz⟩:=hrel;have CHN:=lh hcn;have HZ:=lh hbz;have K1:=lh (K0.out.keep hbz);clear hcn hbz;have k3:=K1.out.at_ 3 rfl;by_cases hjl:k < y.ss.length
                · have tj:decide ((k:Int) < (y.ss.length:Int))=true:=decide_eq_true (by omega);have NB:Hid (segT (y.ss[k]'hjl) (decide (k=0)) (endK y.ss k)=false→gd=false):=fun h=>NG.out (ChnK.bad hjl h);have NC:Hid (segT (y.ss[k]'hjl) (decide (k=0)) (endK y.ss k)=true→ChnK y.ss (k+1)):=fun h=>CHN.out.step hjl h;have SV:=lh (SW.out wv (q0a B0.out HZ.out))
                  have PREV:Hid (0 < k→∃ b o,yA=some ⟨b,o,none⟩∧wv.cell? ⟨b,o+(k - 1) * 5+1,none⟩=some (.int .i64 (endK y.ss k))):=fun h0=>by
                    obtain ⟨b,o,e,-,-,p1,-⟩:=SV.out.at_ (k:=k - 1) (by omega);refine ⟨b,o,e,?_⟩;rw [p1];unfold endK;rw [dif_pos ⟨h0,by omega⟩]
                  obtain ⟨b2,o2,rfl,-,p0,p1,p2,p3,p4,hok2⟩:=SV.out.at_ hjl;have OK2:=lh hok2;clear hok2 SV;generalize y.ss[k]'hjl=s at *;generalize endK y.ss k=en at *;go_upto_region 6 with fail
                  go_cut [67] from 34 to 67 (fun sx wx=>sx=.bool (!segT s (decide (k=0)) en)∧Below wv.heap.size wv wx)
                  case first=>
                    cases hsg:segB s with
                    | false=>
                      have JS:Hid (∀ X,Below wv.heap.size wv X→X.cell? ⟨w.heap.size,3,none⟩=some (.slice (some ⟨b2,o2,none⟩) y.ss.length y.c)∧X.cell? ⟨b2,o2+k * 5,none⟩=some (.int .i64 s.F)∧X.cell? ⟨b2,o2+k * 5+1,none⟩=some (.int .i64 s.T)∧X.cell? ⟨b2,o2+k * 5+2,none⟩=some (.slice s.A0 s.l0.length s.c0)∧X.cell? ⟨b2,o2+k * 5+3,none⟩=some (.slice s.A1 s.l1.length s.c1)∧X.cell? ⟨b2,o2+k * 5+4,none⟩=some (.slice s.A2 s.l2.length s.c2)):=fun X h=>⟨q0b h k3,q0b h p0,q0b h p1,q0b h p2,q0b h p3,q0b h p4⟩;have Y0:Hid (Below wv.heap.size wv wv.drew):=(Below.refl _ _).drew;refine wp_region_held_drew (S:=fun w'=>w'.cell? ⟨w.heap.size,3,none⟩=some (.slice (some ⟨b2,o2,none⟩) y.ss.length y.c)∧w'.cell? ⟨b2,o2+k * 5,none⟩=some (.int .i64 s.F)∧w'.cell? ⟨b2,o2+k * 5+1,none⟩=some (.int .i64 s.T)∧w'.cell? ⟨b2,o2+k * 5+2,none⟩=some (.slice s.A0 s.l0.length s.c0)∧w'.cell? ⟨b2,o2+k * 5+3,none⟩=some (.slice s.A1 s.l1.length s.c1)∧w'.cell? ⟨b2,o2+k * 5+4,none⟩=some (.slice s.A2 s.l2.length s.c2)) (by kernel_rfl) (JS.out _ Y0.out) (fun hHeld=>?_);refine tk 0 (.pointer (some ⟨w.heap.size,3,none⟩)) rfl ?_;(try simp only [Act.put,z0q,z1q,z3q,z4q,z5q]);refine tk 1 (.slice (some ⟨b2,o2,none⟩) y.ss.length y.c) rfl ?_;(try simp only [Act.put,z0q,z1q,z2q,z3q,z4q,z5q]);refine tk 2 (.int .i64 k) rfl ?_;(try simp only [Act.put,z0q,z1q,z2q,z3q,z4q,z5q]);refine tk 3 (.pointer (some ⟨b2,o2+k * 5,none⟩)) rfl ?_;(try simp only [Act.put,z0q,z1q,z2q,z3q,z4q,z5q]);refine tk 4 (.agg #[.int .i64 s.F,.int .i64 s.T,.slice s.A0 s.l0.length s.c0,.slice s.A1 s.l1.length s.c1,.slice s.A2 s.l2.length s.c2]) rfl ?_;(try simp only [Act.put,z0q,z1q,z2q,z3q,z4q,z5q]);refine wpAnyH_ready (rs:=[5]) (by kernel_rfl) (by simp) ?_;refine AllReadyH.cons rfl (fun K hK=>?_) AllReadyH.nil;go_simp
                      (with_reducible refine (rseg_any s B wv.drew (OK2.out.below Y0.out)).mono ?_);rintro e v1 ⟨rfl,hb⟩;(try dsimp only);rw [hsg];have Y1:=lh (q0a Y0.out hb);clear hb;(try go_wp2_with fail);refine hK.out _ _ (JS.out _ Y1.out) (fun hHeld2=>?_);clear hK K hHeld;have hHeld:=hHeld2;clear hHeld2;(try simp only [Act.put,z0q,z1q,z2q,z3q,z4q,z5q]);refine tk 6 (.bool true) rfl ?_;(try simp only [Act.put,z0q,z1q,z2q,z3q,z4q,z5q]);refine tk 7 (.bool true) rfl ?_;(try simp only [Act.put,z0q,z1q,z2q,z3q,z4q,z5q]);refine wpAnyH_take (i:=8) (v:=undef) rfl (by kernel_rfl) (by kernel_rfl) (by kernel_rfl) (fun _ _ _ h=>h) (Or.inr ⟨by rfl,rfl⟩) (by assumption) ?_;(try simp only [Act.put,z0q,z1q,z2q,z3q,z4q,z5q]);refine wpAnyH_take (i:=9) (v:=undef) rfl (by kernel_rfl) (by kernel_rfl) (by kernel_rfl) (fun _ _ _ h=>h) (Or.inr ⟨by rfl,rfl⟩) (by assumption) ?_;(try simp only [Act.put,z0q,z1q,z2q,z3q,z4q,z5q]);refine wpAnyH_take (i:=10) (v:=undef) rfl (by kernel_rfl) (by kernel_rfl) (by kernel_rfl) (fun _ _ _ h=>h) (Or.inr ⟨by rfl,rfl⟩) (by assumption) ?_;(try simp only [Act.put,z0q,z1q,z2q,z3q,z4q,z5q]);refine wpAnyH_take (i:=11) (v:=undef) rfl (by kernel_rfl) (by kernel_rfl) (by kernel_rfl) (fun _ _ _ h=>h) (Or.inr ⟨by rfl,rfl⟩) (by assumption) ?_;(try simp only [Act.put,z0q,z1q,z2q,z3q,z4q,z5q]);refine wpAnyH_take (i:=12) (v:=undef) rfl (by kernel_rfl) (by kernel_rfl) (by kernel_rfl) (fun _ _ _ h=>h) (Or.inr ⟨by rfl,rfl⟩) (by assumption) ?_;(try simp only [Act.put,z0q,z1q,z2q,z3q,z4q,z5q]);refine wpAnyH_take (i:=13) (v:=undef) rfl (by kernel_rfl) (by kernel_rfl) (by kernel_rfl) (fun _ _ _ h=>h) (Or.inr ⟨by rfl,rfl⟩) (by assumption) ?_;(try simp only [Act.put,z0q,z1q,z2q,z3q,z4q,z5q]);refine wpAnyH_take (i:=14) (v:=undef) rfl (by kernel_rfl) (by kernel_rfl) (by kernel_rfl) (fun _ _ _ h=>h) (Or.inr ⟨by rfl,rfl⟩) (by assumption) ?_;(try simp only [Act.put,z0q,z1q,z2q,z3q,z4q,z5q]);refine wpAnyH_take (i:=15) (v:=undef) rfl (by kernel_rfl) (by kernel_rfl) (by kernel_rfl) (fun _ _ _ h=>h) (Or.inr ⟨by rfl,rfl⟩) (by assumption) ?_;(try simp only [Act.put,z0q,z1q,z2q,z3q,z4q,z5q]);refine wpAnyH_take (i:=16) (v:=undef) rfl (by kernel_rfl) (by kernel_rfl) (by kernel_rfl) (fun _ _ _ h=>h) (Or.inr ⟨by rfl,rfl⟩) (by assumption) ?_;(try simp only [Act.put,z0q,z1q,z2q,z3q,z4q,z5q]);refine wpAnyH_take (i:=17) (v:=undef) rfl (by kernel_rfl) (by kernel_rfl) (by kernel_rfl) (fun _ _ _ h=>h) (Or.inr ⟨by rfl,rfl⟩) (by assumption) ?_;(try simp only [Act.put,z0q,z1q,z2q,z3q,z4q,z5q]);refine wpAnyH_take (i:=18) (v:=undef) rfl (by kernel_rfl) (by kernel_rfl) (by kernel_rfl) (fun _ _ _ h=>h) (Or.inr ⟨by rfl,rfl⟩) (by assumption) ?_;(try simp only [Act.put,z0q,z1q,z2q,z3q,z4q,z5q]);refine wpAnyH_take (i:=19) (v:=undef) rfl (by kernel_rfl) (by kernel_rfl) (by kernel_rfl) (fun _ _ _ h=>h) (Or.inr ⟨by rfl,rfl⟩) (by assumption) ?_;(try simp only [Act.put,z0q,z1q,z2q,z3q,z4q,z5q]);refine wpAnyH_take (i:=20) (v:=undef) rfl (by kernel_rfl) (by kernel_rfl) (by kernel_rfl) (fun _ _ _ h=>h) (Or.inr ⟨by rfl,rfl⟩) (by assumption) ?_;(try simp only [Act.put,z0q,z1q,z2q,z3q,z4q,z5q]);refine wpAnyH_take (i:=21) (v:=undef) rfl (by kernel_rfl) (by kernel_rfl) (by kernel_rfl) (fun _ _ _ h=>h) (Or.inr ⟨by rfl,rfl⟩) (by assumption) ?_;(try simp only [Act.put,z0q,z1q,z2q,z3q,z4q,z5q]);refine wpAnyH_take (i:=22) (v:=undef) rfl (by kernel_rfl) (by kernel_rfl) (by kernel_rfl) (fun _ _ _ h=>h) (Or.inr ⟨by rfl,rfl⟩) (by assumption) ?_;(try simp only [Act.put,z0q,z1q,z2q,z3q,z4q,z5q]);refine wpAnyH_take (i:=23) (v:=undef) rfl (by kernel_rfl) (by kernel_rfl) (by kernel_rfl) (fun _ _ _ h=>h) (Or.inr ⟨by rfl,rfl⟩) (by assumption) ?_;(try simp only [Act.put,z0q,z1q,z2q,z3q,z4q,z5q]);refine wpAnyH_take (i:=24) (v:=undef) rfl (by kernel_rfl) (by kernel_rfl) (by kernel_rfl) (fun _ _ _ h=>h) (Or.inr ⟨by rfl,rfl⟩) (by assumption) ?_;(try simp only [Act.put,z0q,z1q,z2q,z3q,z4q,z5q]);refine wpAnyH_take (i:=25) (v:=undef) rfl (by kernel_rfl) (by kernel_rfl) (by kernel_rfl) (fun _ _ _ h=>h) (Or.inr ⟨by rfl,rfl⟩) (by assumption) ?_;(try simp only [Act.put,z0q,z1q,z2q,z3q,z4q,z5q]);refine tk 26 (.bool true) rfl ?_;(try simp only [Act.put,z0q,z1q,z2q,z3q,z4q,z5q]);refine wpAnyH_done (by kernel_rfl) ?_ _;go_wp2
                      go_meet
                      exact ⟨congrArg Value.bool (by unfold segT; rw [hsg]; rfl),Y1.out⟩
                    | true=>
                      by_cases hk0:k=0
                      · have tz:decide ((0:Int) < (k:Int))=false:=decide_eq_false (by omega);have HK0:=lh hk0;clear hk0 PREV;have JS:Hid (∀ X,Below wv.heap.size wv X→X.cell? ⟨w.heap.size,3,none⟩=some (.slice (some ⟨b2,o2,none⟩) y.ss.length y.c)∧X.cell? ⟨b2,o2+k * 5,none⟩=some (.int .i64 s.F)∧X.cell? ⟨b2,o2+k * 5+1,none⟩=some (.int .i64 s.T)∧X.cell? ⟨b2,o2+k * 5+2,none⟩=some (.slice s.A0 s.l0.length s.c0)∧X.cell? ⟨b2,o2+k * 5+3,none⟩=some (.slice s.A1 s.l1.length s.c1)∧X.cell? ⟨b2,o2+k * 5+4,none⟩=some (.slice s.A2 s.l2.length s.c2)):=fun X h=>⟨q0b h k3,q0b h p0,q0b h p1,q0b h p2,q0b h p3,q0b h p4⟩;have Y0:Hid (Below wv.heap.size wv wv.drew):=(Below.refl _ _).drew;refine wp_region_held_drew (S:=fun w'=>w'.cell? ⟨w.heap.size,3,none⟩=some (.slice (some ⟨b2,o2,none⟩) y.ss.length y.c)∧w'.cell? ⟨b2,o2+k * 5,none⟩=some (.int .i64 s.F)∧w'.cell? ⟨b2,o2+k * 5+1,none⟩=some (.int .i64 s.T)∧w'.cell? ⟨b2,o2+k * 5+2,none⟩=some (.slice s.A0 s.l0.length s.c0)∧w'.cell? ⟨b2,o2+k * 5+3,none⟩=some (.slice s.A1 s.l1.length s.c1)∧w'.cell? ⟨b2,o2+k * 5+4,none⟩=some (.slice s.A2 s.l2.length s.c2)) (by kernel_rfl) (JS.out _ Y0.out) (fun hHeld=>?_);refine tk 0 (.pointer (some ⟨w.heap.size,3,none⟩)) rfl ?_;(try simp only [Act.put,z0q,z1q,z3q,z4q,z5q]);refine tk 1 (.slice (some ⟨b2,o2,none⟩) y.ss.length y.c) rfl ?_;(try simp only [Act.put,z0q,z1q,z2q,z3q,z4q,z5q]);refine tk 2 (.int .i64 k) rfl ?_;(try simp only [Act.put,z0q,z1q,z2q,z3q,z4q,z5q]);refine tk 3 (.pointer (some ⟨b2,o2+k * 5,none⟩)) rfl ?_;(try simp only [Act.put,z0q,z1q,z2q,z3q,z4q,z5q]);refine tk 4 (.agg #[.int .i64 s.F,.int .i64 s.T,.slice s.A0 s.l0.length s.c0,.slice s.A1 s.l1.length s.c1,.slice s.A2 s.l2.length s.c2]) rfl ?_;(try simp only [Act.put,z0q,z1q,z2q,z3q,z4q,z5q]);refine wpAnyH_ready (rs:=[5]) (by kernel_rfl) (by simp) ?_;refine AllReadyH.cons rfl (fun K hK=>?_) AllReadyH.nil;go_simp
                        (with_reducible refine (rseg_any s B wv.drew (OK2.out.below Y0.out)).mono ?_);rintro e v1 ⟨rfl,hb⟩;(try dsimp only);rw [hsg];have Y1:=lh (q0a Y0.out hb);clear hb;(try go_wp2_with fail);refine hK.out _ _ (JS.out _ Y1.out) (fun hHeld2=>?_);clear hK K hHeld;have hHeld:=hHeld2;clear hHeld2;(try simp only [Act.put,z0q,z1q,z2q,z3q,z4q,z5q]);refine tk 6 (.bool false) rfl ?_;(try simp only [Act.put,z0q,z1q,z2q,z3q,z4q,z5q]);refine tk 7 (.bool false) rfl ?_;(try simp only [Act.put,z0q,z1q,z2q,z3q,z4q,z5q]);refine tk 8 (.int .i64 k) rfl ?_;(try simp only [Act.put,z0q,z1q,z2q,z3q,z4q,z5q]);refine wpAnyH_take (i:=9) (v:=.bool false) rfl (by kernel_rfl) (by kernel_rfl) (by kernel_rfl) (fun _ _ _ h=>h) (Or.inl ⟨by rfl,by intro w hSw; (try dsimp only at hSw); go_simp; exact HK0.out⟩) (by assumption) ?_;(try simp only [Act.put,z0q,z1q,z2q,z3q,z4q,z5q]);refine tk 10 (.bool false) rfl ?_;(try simp only [Act.put,z0q,z1q,z2q,z3q,z4q,z5q]);refine wpAnyH_take (i:=11) (v:=undef) rfl (by kernel_rfl) (by kernel_rfl) (by kernel_rfl) (fun _ _ _ h=>h) (Or.inr ⟨by rfl,rfl⟩) (by assumption) ?_;(try simp only [Act.put,z0q,z1q,z2q,z3q,z4q,z5q]);refine wpAnyH_take (i:=12) (v:=undef) rfl (by kernel_rfl) (by kernel_rfl) (by kernel_rfl) (fun _ _ _ h=>h) (Or.inr ⟨by rfl,rfl⟩) (by assumption) ?_;(try simp only [Act.put,z0q,z1q,z2q,z3q,z4q,z5q]);refine wpAnyH_take (i:=13) (v:=undef) rfl (by kernel_rfl) (by kernel_rfl) (by kernel_rfl) (fun _ _ _ h=>h) (Or.inr ⟨by rfl,rfl⟩) (by assumption) ?_;(try simp only [Act.put,z0q,z1q,z2q,z3q,z4q,z5q]);refine wpAnyH_take (i:=14) (v:=undef) rfl (by kernel_rfl) (by kernel_rfl) (by kernel_rfl) (fun _ _ _ h=>h) (Or.inr ⟨by rfl,rfl⟩) (by assumption) ?_;(try simp only [Act.put,z0q,z1q,z2q,z3q,z4q,z5q]);refine wpAnyH_take (i:=15) (v:=undef) rfl (by kernel_rfl) (by kernel_rfl) (by kernel_rfl) (fun _ _ _ h=>h) (Or.inr ⟨by rfl,rfl⟩) (by assumption) ?_;(try simp only [Act.put,z0q,z1q,z2q,z3q,z4q,z5q]);refine wpAnyH_take (i:=16) (v:=undef) rfl (by kernel_rfl) (by kernel_rfl) (by kernel_rfl) (fun _ _ _ h=>h) (Or.inr ⟨by rfl,rfl⟩) (by assumption) ?_;(try simp only [Act.put,z0q,z1q,z2q,z3q,z4q,z5q]);refine wpAnyH_take (i:=17) (v:=undef) rfl (by kernel_rfl) (by kernel_rfl) (by kernel_rfl) (fun _ _ _ h=>h) (Or.inr ⟨by rfl,rfl⟩) (by assumption) ?_;(try simp only [Act.put,z0q,z1q,z2q,z3q,z4q,z5q]);refine wpAnyH_take (i:=18) (v:=undef) rfl (by kernel_rfl) (by kernel_rfl) (by kernel_rfl) (fun _ _ _ h=>h) (Or.inr ⟨by rfl,rfl⟩) (by assumption) ?_;(try simp only [Act.put,z0q,z1q,z2q,z3q,z4q,z5q]);refine wpAnyH_take (i:=19) (v:=undef) rfl (by kernel_rfl) (by kernel_rfl) (by kernel_rfl) (fun _ _ _ h=>h) (Or.inr ⟨by rfl,rfl⟩) (by assumption) ?_;(try simp only [Act.put,z0q,z1q,z2q,z3q,z4q,z5q]);refine wpAnyH_take (i:=20) (v:=undef) rfl (by kernel_rfl) (by kernel_rfl) (by kernel_rfl) (fun _ _ _ h=>h) (Or.inr ⟨by rfl,rfl⟩) (by assumption) ?_;(try simp only [Act.put,z0q,z1q,z2q,z3q,z4q,z5q]);refine wpAnyH_take (i:=21) (v:=undef) rfl (by kernel_rfl) (by kernel_rfl) (by kernel_rfl) (fun _ _ _ h=>h) (Or.inr ⟨by rfl,rfl⟩) (by assumption) ?_;(try simp only [Act.put,z0q,z1q,z2q,z3q,z4q,z5q]);refine wpAnyH_take (i:=22) (v:=undef) rfl (by kernel_rfl) (by kernel_rfl) (by kernel_rfl) (fun _ _ _ h=>h) (Or.inr ⟨by rfl,rfl⟩) (by assumption) ?_;(try simp only [Act.put,z0q,z1q,z2q,z3q,z4q,z5q]);refine wpAnyH_take (i:=23) (v:=undef) rfl (by kernel_rfl) (by kernel_rfl) (by kernel_rfl) (fun _ _ _ h=>h) (Or.inr ⟨by rfl,rfl⟩) (by assumption) ?_;(try simp only [Act.put,z0q,z1q,z2q,z3q,z4q,z5q]);refine wpAnyH_take (i:=24) (v:=undef) rfl (by kernel_rfl) (by kernel_rfl) (by kernel_rfl) (fun _ _ _ h=>h) (Or.inr ⟨by rfl,rfl⟩) (by assumption) ?_;(try simp only [Act.put,z0q,z1q,z2q,z3q,z4q,z5q]);refine tk 25 (.bool false) rfl ?_;(try simp only [Act.put,z0q,z1q,z2q,z3q,z4q,z5q]);refine tk 26 (.bool false) rfl ?_;(try simp only [Act.put,z0q,z1q,z2q,z3q,z4q,z5q]);refine wpAnyH_done (by kernel_rfl) ?_ _;go_wp2
                        go_meet
                        exact ⟨congrArg Value.bool (by unfold segT; rw [hsg,decide_eq_true HK0.out]; rfl),Y1.out⟩
                      · have tz:decide ((0:Int) < (k:Int))=true:=decide_eq_true (by omega);obtain ⟨bb,oo,ee,pp⟩:=PREV.out (by omega);cases ee
                        have hsub:(k:Int) - 1=((k - 1:Nat):Int):=(by omega);have hkm:k - 1 < y.ss.length:=(by omega);have HK0:=lh hk0;clear hk0 PREV;have JS:Hid (∀ X,Below wv.heap.size wv X→X.cell? ⟨w.heap.size,3,none⟩=some (.slice (some ⟨b2,o2,none⟩) y.ss.length y.c)∧X.cell? ⟨b2,o2+k * 5,none⟩=some (.int .i64 s.F)∧X.cell? ⟨b2,o2+k * 5+1,none⟩=some (.int .i64 s.T)∧X.cell? ⟨b2,o2+k * 5+2,none⟩=some (.slice s.A0 s.l0.length s.c0)∧X.cell? ⟨b2,o2+k * 5+3,none⟩=some (.slice s.A1 s.l1.length s.c1)∧X.cell? ⟨b2,o2+k * 5+4,none⟩=some (.slice s.A2 s.l2.length s.c2)∧X.cell? ⟨b2,o2+(k - 1) * 5+1,none⟩=some (.int .i64 en)):=fun X h=>⟨q0b h k3,q0b h p0,q0b h p1,q0b h p2,q0b h p3,q0b h p4,q0b h pp⟩;have Y0:Hid (Below wv.heap.size wv wv.drew):=(Below.refl _ _).drew;refine wp_region_held_drew (S:=fun w'=>w'.cell? ⟨w.heap.size,3,none⟩=some (.slice (some ⟨b2,o2,none⟩) y.ss.length y.c)∧w'.cell? ⟨b2,o2+k * 5,none⟩=some (.int .i64 s.F)∧w'.cell? ⟨b2,o2+k * 5+1,none⟩=some (.int .i64 s.T)∧w'.cell? ⟨b2,o2+k * 5+2,none⟩=some (.slice s.A0 s.l0.length s.c0)∧w'.cell? ⟨b2,o2+k * 5+3,none⟩=some (.slice s.A1 s.l1.length s.c1)∧w'.cell? ⟨b2,o2+k * 5+4,none⟩=some (.slice s.A2 s.l2.length s.c2)∧w'.cell? ⟨b2,o2+(k - 1) * 5+1,none⟩=some (.int .i64 en)) (by kernel_rfl) (JS.out _ Y0.out) (fun hHeld=>?_);refine tk 0 (.pointer (some ⟨w.heap.size,3,none⟩)) rfl ?_;(try simp only [Act.put,z0q,z1q,z3q,z4q,z5q]);refine tk 1 (.slice (some ⟨b2,o2,none⟩) y.ss.length y.c) rfl ?_;(try simp only [Act.put,z0q,z1q,z2q,z3q,z4q,z5q]);refine tk 2 (.int .i64 k) rfl ?_;(try simp only [Act.put,z0q,z1q,z2q,z3q,z4q,z5q]);refine tk 3 (.pointer (some ⟨b2,o2+k * 5,none⟩)) rfl ?_;(try simp only [Act.put,z0q,z1q,z2q,z3q,z4q,z5q]);refine tk 4 (.agg #[.int .i64 s.F,.int .i64 s.T,.slice s.A0 s.l0.length s.c0,.slice s.A1 s.l1.length s.c1,.slice s.A2 s.l2.length s.c2]) rfl ?_;(try simp only [Act.put,z0q,z1q,z2q,z3q,z4q,z5q]);refine wpAnyH_ready (rs:=[5]) (by kernel_rfl) (by simp) ?_;refine AllReadyH.cons rfl (fun K hK=>?_) AllReadyH.nil;go_simp
                        (with_reducible refine (rseg_any s B wv.drew (OK2.out.below Y0.out)).mono ?_);rintro e v1 ⟨rfl,hb⟩;(try dsimp only);rw [hsg];have Y1:=lh (q0a Y0.out hb);clear hb;(try go_wp2_with fail);refine hK.out _ _ (JS.out _ Y1.out) (fun hHeld2=>?_);clear hK K hHeld;have hHeld:=hHeld2;clear hHeld2;(try simp only [Act.put,z0q,z1q,z2q,z3q,z4q,z5q]);refine tk 6 (.bool false) rfl ?_;(try simp only [Act.put,z0q,z1q,z2q,z3q,z4q,z5q]);refine tk 7 (.bool false) rfl ?_;(try simp only [Act.put,z0q,z1q,z2q,z3q,z4q,z5q]);refine tk 8 (.int .i64 k) rfl ?_;(try simp only [Act.put,z0q,z1q,z2q,z3q,z4q,z5q]);refine wpAnyH_take (i:=9) (v:=.bool true) rfl (by kernel_rfl) (by kernel_rfl) (by kernel_rfl) (fun _ _ _ h=>h) (Or.inl ⟨by rfl,by intro w hSw; (try dsimp only at hSw); go_simp; have:=HK0.out; omega⟩) (by assumption) ?_;(try simp only [Act.put,z0q,z1q,z2q,z3q,z4q,z5q]);refine tk 10 (.bool true) rfl ?_;(try simp only [Act.put,z0q,z1q,z2q,z3q,z4q,z5q]);refine tk 11 (.pointer (some ⟨w.heap.size,3,none⟩)) rfl ?_;(try simp only [Act.put,z0q,z1q,z2q,z3q,z4q,z5q]);refine tk 12 (.slice (some ⟨b2,o2,none⟩) y.ss.length y.c) rfl ?_;(try simp only [Act.put,z0q,z1q,z2q,z3q,z4q,z5q]);refine tk 13 (.int .i64 k) rfl ?_;(try simp only [Act.put,z0q,z1q,z2q,z3q,z4q,z5q]);refine tk 14 (.pointer (some ⟨b2,o2+k * 5,none⟩)) rfl ?_;(try simp only [Act.put,z0q,z1q,z2q,z3q,z4q,z5q]);refine tk 15 (.pointer (some ⟨b2,o2+k * 5,none⟩)) rfl ?_;(try simp only [Act.put,z0q,z1q,z2q,z3q,z4q,z5q]);refine tk 16 (.int .i64 s.F) rfl ?_;(try simp only [Act.put,z0q,z1q,z2q,z3q,z4q,z5q]);refine tk 17 (.pointer (some ⟨w.heap.size,3,none⟩)) rfl ?_;(try simp only [Act.put,z0q,z1q,z2q,z3q,z4q,z5q]);refine tk 18 (.slice (some ⟨b2,o2,none⟩) y.ss.length y.c) rfl ?_;(try simp only [Act.put,z0q,z1q,z2q,z3q,z4q,z5q]);refine tk 19 (.int .i64 k) rfl ?_;(try simp only [Act.put,z0q,z1q,z2q,z3q,z4q,z5q]);refine wpAnyH_take (i:=20) (v:=.int .i64 ((k - 1:Nat):Int)) rfl (by kernel_rfl) (by kernel_rfl) (by kernel_rfl) (fun _ _ _ h=>h) (Or.inl ⟨by rfl,by intro w hSw; (try dsimp only at hSw); go_simp; exact wrap_nat (by omega)⟩) (by assumption) ?_;(try simp only [Act.put,z0q,z1q,z2q,z3q,z4q,z5q]);refine tk 21 (.pointer (some ⟨b2,o2+(k - 1) * 5,none⟩)) rfl ?_;(try simp only [Act.put,z0q,z1q,z2q,z3q,z4q,z5q]);refine tk 22 (.pointer (some ⟨b2,o2+(k - 1) * 5+1,none⟩)) rfl ?_;(try simp only [Act.put,z0q,z1q,z2q,z3q,z4q,z5q]);refine tk 23 (.int .i64 en) rfl ?_;(try simp only [Act.put,z0q,z1q,z2q,z3q,z4q,z5q]);refine tk 24 (.bool (s.F != en)) rfl ?_;(try simp only [Act.put,z0q,z1q,z2q,z3q,z4q,z5q]);refine tk 25 (.bool (s.F != en)) rfl ?_;(try simp only [Act.put,z0q,z1q,z2q,z3q,z4q,z5q]);refine tk 26 (.bool (s.F != en)) rfl ?_;(try simp only [Act.put,z0q,z1q,z2q,z3q,z4q,z5q]);refine wpAnyH_done (by kernel_rfl) ?_ _;go_wp2
                        go_meet
                        exact ⟨congrArg Value.bool (by unfold segT; rw [hsg,decide_eq_false HK0.out]; simp [bne,Bool.beq_eq_decide_eq]),Y1.out⟩
                  case rest=>
                    obtain ⟨rfl,hb⟩:=hcut;have HZ2:=lh (q0a HZ.out hb);clear hb
                    cases hT:segT s (decide (k=0)) en with
                    | false=>
                      have E:=lh (NB.out hT);go_wp2
                      go_ret
                      exact ⟨by rw [E.out]; rfl,q0a B0.out HZ2.out⟩
                    | true=>
                      have E:=lh (NC.out hT);go_wp2
                      go_roundw
                      case rel=>exact ⟨k+1,by omega,by go_num,E.out,HZ2.out⟩
                      case measure=>simp [intOf]; omega
                · obtain rfl:k=y.ss.length:=by omega
                  have tj:decide ((y.ss.length:Int) < (y.ss.length:Int))=false:=decide_eq_false (by omega);have E:=lh (GG.out (CHN.out.good HN.out (by omega) (by omega) (by omega) (by omega) (by omega)));go_wp2
                  go_ret
                  exact ⟨by rw [E.out]; rfl,q0a B0.out HZ.out⟩
theorem manyS_l {s:SG} (h:∀ j,j < 3→(s.l j).length≤16):manyS s=false:=by
  have a:=h 0 (by omega);have b:=h 1 (by omega);have c:=h 2 (by omega);unfold SG.l at a b c;simp at a b c;unfold manyS;simp; omega
theorem manyS_bad {s:SG} {j:Nat} (h:16 < (s.l j).length):manyS s=true:=by
  unfold SG.l at h;unfold manyS;simp only [Bool.or_eq_true,decide_eq_true_eq];split at h
  · omega
  · split at h <;> omega
theorem goodB_iff {b:BG} : goodB b=true ↔ GoodB b:=by unfold goodB; simp
theorem GoodK.zero (bs:List BG):GoodK bs 0:=fun j hj h=>by omega
theorem seen_none {bs:List BG} {k:Nat} {s:List UInt8} (h:∀ j (hj:j < bs.length),j < k→(bs[j]'hj).nm≠s):seenB bs k s=false:=by
  unfold seenB;rw [List.any_eq_false];intro b hb;obtain ⟨j,hj,rfl⟩:=List.mem_take_iff_getElem.1 hb;have:=h j (by omega) (by omega);simpa using this
theorem seen_some {bs:List BG} {j k:Nat} {s:List UInt8} (hj:j < bs.length) (hk:j < k) (h:(bs[j]'hj).nm=s):seenB bs k s=true:=by
  unfold seenB;rw [List.any_eq_true];exact ⟨_,List.mem_take_iff_getElem.2 ⟨j,by omega,rfl⟩,by simpa using h⟩
theorem recheck_any (bs:List BG) (A:Option Addr) (c B:Nat) (w:World) (hs:SlB w B A bs c) :
    Calls Tryz.prog 102 #[.agg #[.slice A bs.length c]] w fun e w'=>e=.returned (.int .i64 (chkE bs))∧Below w.heap.size w w':=by
  have hm:=hs.len;have S:=lh hs;have B0:Hid (Below w.heap.size w (w.alloc (.cells #[.slice A bs.length c] 24))):=blw1 _ _;have K0:Hid (BlkV (w.alloc (.cells #[.slice A bs.length c] 24)) w.heap.size 24 #[.slice A bs.length c]):=BlkV.fresh rfl _ _;clear hs;go_enter Tryz.func102,Tryz.ntmps102
  go_upto_region 1 with fail
  generalize hw0:w.alloc (.cells #[.slice A bs.length c] 24)=w0 at *;clear hw0;have k0:=K0.out.at_ 0 rfl;have hlk:=K0.out.lt;have SW:=lh (fun W (h:Below w0.heap.size w0 W)=>S.out.below (q0a B0.out h));clear S;by_cases hbig:12 < bs.length
  · have t1:decide ((12:Int) < (bs.length:Int))=true:=decide_eq_true (by omega);have E:=lh (chkE_big hbig);go_wp2
    go_ret
    exact ⟨by rw [E.out]; rfl,B0.out⟩
  · have t1:decide ((12:Int) < (bs.length:Int))=false:=decide_eq_false (by omega);go_wp2
    go_loopw [3] (fun s3 wr=>∃ k:Nat,k≤bs.length∧s3=.int .i64 k∧(∀ b∈bs.take k,manyB b=false)∧wr=w0) (fun v _=>bs.length - (intOf v).toNat)
    case atStart=>exact ⟨0,Nat.zero_le _,rfl,by simp,rfl⟩
    case round=>
      obtain ⟨k,hk,rfl,hall,hw⟩:=hrel;replace hw:=hw.symm;subst hw;have ALL:=lh hall;clear hall;by_cases hlt:k < bs.length
      · have tk':decide ((k:Int) < (bs.length:Int))=true:=decide_eq_true (by omega);obtain ⟨b,o,rfl,-,q0,q1,q2,q3,hok⟩:=(SW.out _ (Below.refl _ _)).at_ hlt;have OK:=lh hok;have hst:Hid (bs[k]'hlt∈bs):=List.getElem_mem hlt;have HG:Hid (manyB (bs[k]'hlt)=false→∀ f∈bs.take (k+1),manyB f=false):=fun h=>q1f hlt ALL.out h;have hml:=hok.sl.len;clear hok;generalize bs[k]'hlt=y at *;obtain ⟨yA,hyA⟩:∃ a,y.A=a:=⟨_,rfl⟩;rw [hyA] at q3;have SSW:Hid (SlS w0 B yA y.ss y.c):=(by rw [← hyA]; exact OK.out.sl);clear hyA OK;by_cases h100:100 < y.ss.length
        · have t2:decide ((100:Int) < (y.ss.length:Int))=true:=decide_eq_true (by omega);have E:=lh (chkE_many hst.out (many_true1 h100));go_wp2
          go_ret
          exact ⟨by rw [E.out]; rfl,B0.out⟩
        · have t2:decide ((100:Int) < (y.ss.length:Int))=false:=decide_eq_false (by omega);go_wp2
          go_loopw [4] (fun s4 wv=>∃ j:Nat,j≤y.ss.length∧s4=.int .i64 j∧(∀ s∈y.ss.take j,manyS s=false)∧wv=w0) (fun v _=>y.ss.length - (intOf v).toNat)
          case atStart=>exact ⟨0,Nat.zero_le _,rfl,by simp,rfl⟩
          case round=>
            obtain ⟨j,hj,rfl,hall,hw⟩:=hrel;replace hw:=hw.symm;subst hw;have ALL2:=lh hall;clear hall;by_cases hjl:j < y.ss.length
            · have tj:decide ((j:Int) < (y.ss.length:Int))=true:=decide_eq_true (by omega);have hst2:Hid (y.ss[j]'hjl∈y.ss):=List.getElem_mem hjl;have HG2:Hid (manyS (y.ss[j]'hjl)=false→∀ f∈y.ss.take (j+1),manyS f=false):=fun h=>q1f hjl ALL2.out h;have hlen2:=fun i=>(SSW.out.sli hjl i).len;obtain ⟨b2,o2,rfl,-,pC⟩:=SSW.out.atC hjl;have PC:=lh pC;clear pC;generalize y.ss[j]'hjl=s at *;have HL2:=lh hlen2;clear hlen2;go_wp2
              go_loopw [5] (fun s5 wv=>∃ i:Nat,i≤3∧s5=.int .i64 i∧(∀ n,n < i→(s.l n).length≤16)∧wv=w0) (fun v _=>3 - (intOf v).toNat)
              case atStart=>exact ⟨0,by omega,rfl,by omega,rfl⟩
              case round=>
                obtain ⟨i,hi,rfl,hall,hw⟩:=hrel;replace hw:=hw.symm;subst hw;have ALL3:=lh hall;clear hall;by_cases hi3:i < 3
                · have ti:decide ((i:Int) < 3)=true:=decide_eq_true (by omega);have pc:=PC.out i hi3;have hsl:=HL2.out i;have NX:Hid ((s.l i).length≤16→∀ n,n < i+1→(s.l n).length≤16):=fun h=>below3 ALL3.out h;have NB:Hid (16 < (s.l i).length→chkE bs=4):=fun h=>chkE_many hst.out (many_true2 hst2.out (manyS_bad h));generalize s.l i=l at *;by_cases h16:16 < l.length
                  · have t3:decide ((16:Int) < (l.length:Int))=true:=decide_eq_true (by omega);have E:=lh (NB.out h16);go_wp2
                    go_ret
                    exact ⟨by rw [E.out]; rfl,B0.out⟩
                  · have t3:decide ((16:Int) < (l.length:Int))=false:=decide_eq_false (by omega);have E:=lh (NX.out (by omega));go_wp2
                    go_roundw
                    case rel=>exact ⟨i+1,by omega,by go_num,E.out,(by first | rfl | trivial)⟩
                    case measure=>simp [intOf]; omega
                · obtain rfl:i=3:=by omega
                  have ti:decide (((3:Nat):Int) < 3)=false:=rfl;have E:=lh (HG2.out (manyS_l ALL3.out));go_wp2
                  go_roundw
                  case rel=>exact ⟨j+1,by omega,by go_num,E.out,(by first | rfl | trivial)⟩
                  case measure=>simp [intOf]; omega
            · obtain rfl:j=y.ss.length:=by omega
              have tj:decide ((y.ss.length:Int) < (y.ss.length:Int))=false:=decide_eq_false (by omega);have E:=lh (HG.out (many_false (by omega) (by have:=ALL2.out; rwa [List.take_length] at this)));go_wp2
              go_roundw
              case rel=>exact ⟨k+1,by omega,by go_num,E.out,(by first | rfl | trivial)⟩
              case measure=>simp [intOf]; omega
      · obtain rfl:k=bs.length:=by omega
        have tk':decide ((bs.length:Int) < (bs.length:Int))=false:=decide_eq_false (by omega);have FEW:Hid (∀ b∈bs,manyB b=false):=(by have:=ALL.out; rwa [List.take_length] at this);clear ALL;go_wp2
        clear tk';go_loopw [6] (fun s6 wv=>∃ k:Nat,k≤bs.length∧s6=.int .i64 k∧GoodK bs k∧Below w0.heap.size w0 wv) (fun v _=>bs.length - (intOf v).toNat)
        case atStart=>exact ⟨0,Nat.zero_le _,rfl,GoodK.zero _,Below.refl _ _⟩
        case round=>
          generalize wr=wv at *;obtain ⟨k,hk,rfl,hall,hbw⟩:=hrel;have ALL:=lh hall;have HB:=lh hbw;have K1:=lh (K0.out.keep hbw);clear hall hbw k0;have k0:=K1.out.at_ 0 rfl;by_cases hlt:k < bs.length
          · have tk':decide ((k:Int) < (bs.length:Int))=true:=decide_eq_true (by omega);have S2:=lh (SW.out _ HB.out);obtain ⟨b,o,rfl,-,q0,q1,q2,q3,hok⟩:=S2.out.at_ hlt;have CB:=lh (rbody_any (bs[k]'hlt) B wv hok);have NG:Hid (¬ GoodB (bs[k]'hlt)→chkE bs=8):=fun h=>chkE_bad (by omega) FEW.out (not_good hlt h);have NS:Hid (∀ j (hj:j < bs.length),j < k→(bs[j]'hj).nm=(bs[k]'hlt).nm→chkE bs=8):=fun j hj hjk h=>chkE_bad (by omega) FEW.out (not_new hlt (seen_some hj hjk h));have NX:Hid (GoodB (bs[k]'hlt)→(∀ j (hj:j < bs.length),j < k→(bs[j]'hj).nm≠(bs[k]'hlt).nm)→GoodK bs (k+1)):=fun h1 h2=>ALL.out.step hlt h1 (seen_none h2);have hnl:=hok.nl;clear hok S2;generalize hy:bs[k]'hlt=y at *;have HY:=lh hy;clear hy
            cases hg:goodB y with
            | false=>
              have E:=lh (NG.out (fun h=>by rw [goodB_t h] at hg; cases hg));rw [hg] at CB;clear hg;go_wp2_with fail
              refine CB.out.mono ?_;rintro e w2 ⟨rfl,hb⟩;have HB2:=lh (q0a HB.out hb);clear hb;go_wp2
              go_ret
              exact ⟨by rw [E.out]; rfl,q0a B0.out HB2.out⟩
            | true=>
              have GY:=lh (goodB_iff.1 hg);rw [hg] at CB;clear hg;go_wp2_with fail
              refine CB.out.mono ?_;rintro e w2 ⟨rfl,hb⟩;have HB2:=lh (q0a HB.out hb);have K2:=lh (K1.out.keep hb);replace q0:=q0b hb q0;clear hb CB q1 q2 q3 k0;have k0:=K2.out.at_ 0 rfl;go_wp2
              go_loopw [7] (fun s7 wz=>∃ j:Nat,j≤k∧s7=.int .i64 j∧(∀ i (hi:i < bs.length),i < j→(bs[i]'hi).nm≠y.nm)∧Below w2.heap.size w2 wz) (fun v _=>k - (intOf v).toNat)
              case atStart=>exact ⟨0,Nat.zero_le _,rfl,fun i hi h=>by omega,Below.refl _ _⟩
              case round=>
                generalize wr=wz at *;obtain ⟨j,hj,rfl,hall2,hbz⟩:=hrel;have ALL2:=lh hall2;have HZ:=lh hbz;have K3:=lh (K2.out.keep hbz);replace q0:=q0b hbz q0;clear hall2 hbz k0;have k0:=K3.out.at_ 0 rfl;by_cases hjl:j < k
                · have tj:decide ((j:Int) < (k:Int))=true:=decide_eq_true (by omega);have hjb:j < bs.length:=(by omega);obtain ⟨b',o',e',-,r0,-,-,-,hok'⟩:=(SW.out _ (q0a HB2.out HZ.out)).at_ hjb;cases e'
                  have NE:=lh (NS.out j hjb hjl)
                  have NN:Hid ((bs[j]'hjb).nm≠y.nm→∀ i (hi:i < bs.length),i < j+1→(bs[i]'hi).nm≠y.nm):=fun h i hi hij=>by
                    rcases Nat.lt_succ_iff_lt_or_eq.1 hij with h3 | rfl
                    · exact ALL2.out i hi h3
                    · exact h
                  have hnz:=hok'.nl;clear hok';generalize bs[j]'hjb=z at *;go_upto_region 24 with fail
                  go_cut [87] from 70 to 87 (fun sx wx=>sx=.bool (decide (z.nm=y.nm))∧Below wz.heap.size wz wx)
                  case first=>
                    have J0:wz.drew.cell? ⟨w.heap.size,0,none⟩=some (.slice (some ⟨b,o,none⟩) bs.length c)∧wz.drew.cell? ⟨b,o+k * 4,none⟩=some (.string ⟨y.nm.toArray⟩)∧wz.drew.cell? ⟨b,o+j * 4,none⟩=some (.string ⟨z.nm.toArray⟩):=⟨k0,q0,r0⟩;refine wp_region_held_drew (S:=fun w'=>w'.cell? ⟨w.heap.size,0,none⟩=some (.slice (some ⟨b,o,none⟩) bs.length c)∧w'.cell? ⟨b,o+k * 4,none⟩=some (.string ⟨y.nm.toArray⟩)∧w'.cell? ⟨b,o+j * 4,none⟩=some (.string ⟨z.nm.toArray⟩)) (by kernel_rfl) (J0) (fun hHeld=>?_);refine tk 0 (.pointer (some ⟨w.heap.size,0,none⟩)) rfl ?_;(try simp only [Act.put,z0q,z1q,z3q,z4q,z5q]);refine tk 1 (.slice (some ⟨b,o,none⟩) bs.length c) rfl ?_;(try simp only [Act.put,z0q,z1q,z2q,z3q,z4q,z5q]);refine tk 2 (.int .i64 j) rfl ?_;(try simp only [Act.put,z0q,z1q,z2q,z3q,z4q,z5q]);refine tk 3 (.pointer (some ⟨b,o+j * 4,none⟩)) rfl ?_;(try simp only [Act.put,z0q,z1q,z2q,z3q,z4q,z5q]);refine tk 4 (.pointer (some ⟨b,o+j * 4,none⟩)) rfl ?_;(try simp only [Act.put,z0q,z1q,z2q,z3q,z4q,z5q]);refine tk 5 (.string ⟨z.nm.toArray⟩) rfl ?_;(try simp only [Act.put,z0q,z1q,z2q,z3q,z4q,z5q]);refine tk 6 (.pointer (some ⟨w.heap.size,0,none⟩)) rfl ?_;(try simp only [Act.put,z0q,z1q,z2q,z3q,z4q,z5q]);refine tk 7 (.slice (some ⟨b,o,none⟩) bs.length c) rfl ?_;(try simp only [Act.put,z0q,z1q,z2q,z3q,z4q,z5q]);refine tk 8 (.int .i64 k) rfl ?_;(try simp only [Act.put,z0q,z1q,z2q,z3q,z4q,z5q]);refine tk 9 (.pointer (some ⟨b,o+k * 4,none⟩)) rfl ?_;(try simp only [Act.put,z0q,z1q,z2q,z3q,z4q,z5q]);refine tk 10 (.pointer (some ⟨b,o+k * 4,none⟩)) rfl ?_;(try simp only [Act.put,z0q,z1q,z2q,z3q,z4q,z5q]);refine tk 11 (.string ⟨y.nm.toArray⟩) rfl ?_;(try simp only [Act.put,z0q,z1q,z2q,z3q,z4q,z5q]);refine wpAnyH_take (i:=12) (v:=.bool (decide (z.nm=y.nm))) rfl (by kernel_rfl) (by kernel_rfl) (by kernel_rfl) (fun _ _ _ h=>h) (Or.inl ⟨by rfl,by intro w hSw; (try dsimp only at hSw); go_simp; by_cases h:z.nm=y.nm <;> simp [h]⟩) (by assumption) ?_;(try simp only [Act.put,z0q,z1q,z2q,z3q,z4q,z5q]);refine wpAnyH_done (by kernel_rfl) ?_ _;go_wp2
                    go_meet
                    exact ⟨rfl,(Below.refl _ _).drew⟩
                  case rest=>
                    obtain ⟨rfl,hb⟩:=hcut;have HZ2:=lh (q0a HZ.out hb);clear hb k0 q0 r0;by_cases hnm:z.nm=y.nm
                    · have E:=lh (NE.out hnm);have tn:decide (z.nm=y.nm)=true:=decide_eq_true hnm;rw [tn];clear tn hnm;go_wp2
                      go_ret
                      exact ⟨by rw [E.out]; rfl,q0a B0.out (q0a HB2.out HZ2.out)⟩
                    · have E:=lh (NN.out hnm);have tn:decide (z.nm=y.nm)=false:=decide_eq_false hnm;rw [tn];clear tn hnm;go_wp2
                      go_roundw
                      case rel=>exact ⟨j+1,by omega,by go_num,E.out,HZ2.out⟩
                      case measure=>simp [intOf]; omega
                · obtain rfl:j=k:=by omega
                  have tj:decide ((j:Int) < (j:Int))=false:=decide_eq_false (by omega);have E:=lh (NX.out GY.out ALL2.out);go_wp2
                  go_roundw
                  case rel=>exact ⟨j+1,by omega,by go_num,E.out,q0a HB2.out HZ.out⟩
                  case measure=>simp [intOf]; omega
          · obtain rfl:k=bs.length:=by omega
            have tk':decide ((bs.length:Int) < (bs.length:Int))=false:=decide_eq_false (by omega);have E:Hid (chkE bs=0):=chkE_good (by omega) FEW.out ALL.out.all;go_wp2
            go_ret
            exact ⟨by rw [E.out]; rfl,q0a B0.out HB.out⟩
theorem getV_in {bs:List BG} {i:Int} (h:hasE bs i=0):∃ hk:i.toNat < bs.length,getV bs i=bs[i.toNat]'hk∧i=(i.toNat:Int):=by
  obtain ⟨-,h1,h2⟩:=hasE_zero h;exact ⟨by omega,getV_ok h ⟨h1,h2⟩,by omega⟩
theorem rhas_any (bs:List BG) (A:Option Addr) (c B:Nat) (i:Int) (w:World) (hs:SlB w B A bs c) :
    Calls Tryz.prog 48 #[.agg #[.slice A bs.length c],.int .i64 i] w fun e w'=>e=.returned (.int .i64 (hasE bs i))∧Below w.heap.size w w':=by
  have S:=lh hs;have B0:Hid (Below w.heap.size w (w.alloc (.cells #[.slice A bs.length c] 24))):=blw1 _ _;have K0:Hid (BlkV (w.alloc (.cells #[.slice A bs.length c] 24)) w.heap.size 24 #[.slice A bs.length c]):=BlkV.fresh rfl _ _;have CK:=lh (fun V (h:Below w.heap.size w V)=>recheck_any bs A c B V (S.out.below h));have hm:=hs.len;clear hs S;go_enter Tryz.func48,Tryz.ntmps48
  go_wp2_with fail
  generalize hw0:w.alloc (.cells #[.slice A bs.length c] 24)=w0 at *;clear hw0;refine (CK.out _ B0.out).mono ?_;rintro e w1 ⟨rfl,hb⟩;have HB:=lh (q0a B0.out hb);have K1:=lh (K0.out.keep hb);clear hb B0 K0;have k0:=K1.out.at_ 0 rfl;have hlk:=K1.out.lt;by_cases h0:chkE bs=0
  · rw [h0];by_cases h1:i < 0
    · have t1:decide (i < 0)=true:=decide_eq_true h1;have E:=lh (hasE_out (bs:=bs) (i:=i) h0 (by omega));clear h0 CK;go_wp2
      go_ret
      exact ⟨by rw [E.out]; rfl,HB.out⟩
    · have t1:decide (i < 0)=false:=decide_eq_false h1;by_cases h2:(bs.length:Int)≤i
      · have t2:decide ((bs.length:Int)≤i)=true:=decide_eq_true h2;have E:=lh (hasE_out (bs:=bs) (i:=i) h0 (by omega));clear h0 CK;go_wp2
        go_ret
        exact ⟨by rw [E.out]; rfl,HB.out⟩
      · have t2:decide ((bs.length:Int)≤i)=false:=decide_eq_false h2;have E:=lh (hasE_in (bs:=bs) (i:=i) h0 (by omega));clear h0 CK;go_wp2
        go_ret
        exact ⟨by rw [E.out]; rfl,HB.out⟩
  · have E:=lh (hasE_bad (i:=i) h0);generalize chkE bs=x at *;have t0:(x != 0)=true:=bne_iff_ne.2 h0;clear h0;go_wp2_with fail
    refine (CK.out _ HB.out).mono ?_;rintro e w2 ⟨rfl,hb⟩;have HB2:=lh (q0a HB.out hb);clear hb;go_wp2
    go_ret
    exact ⟨by rw [E.out]; rfl,HB2.out⟩
theorem rat_any (y:BG) (B:Nat) (tm:Int) (w:World) (hs:OkB w B y) :
    Calls Tryz.prog 49 #[.agg #[.string ⟨y.nm.toArray⟩,.int .i64 y.gm,.int .i64 y.rd,.slice y.A y.ss.length y.c],.int .i64 tm] w fun e w'=>e=.returned (.int .i64 (atI y.ss tm))∧Below w.heap.size w w':=by
  have hml:=hs.sl.len;have S:=lh hs.sl;obtain ⟨yA,hyA⟩:∃ a,y.A=a:=⟨_,rfl⟩;rw [hyA] at S ⊢;clear hs hyA;have B0:Hid (Below w.heap.size w (w.alloc (.cells #[.string ⟨y.nm.toArray⟩,.int .i64 y.gm,.int .i64 y.rd,.slice yA y.ss.length y.c] 40))):=blw1 _ _;have K0:Hid (BlkV (w.alloc (.cells #[.string ⟨y.nm.toArray⟩,.int .i64 y.gm,.int .i64 y.rd,.slice yA y.ss.length y.c] 40)) w.heap.size 40 #[.string ⟨y.nm.toArray⟩,.int .i64 y.gm,.int .i64 y.rd,.slice yA y.ss.length y.c]):=BlkV.fresh rfl _ _;replace S:=lh (S.out.below B0.out);have EF:=lh (fun k (hk:k < y.ss.length) hn h=>(atI_found (t:=tm) hk hn h).1);have EN:=lh (fun hn=>(atI_none (ss:=y.ss) (t:=tm) hn).1);generalize atI y.ss tm=R at *;go_enter Tryz.func49,Tryz.ntmps49
  go_upto_region 1 with fail
  generalize hw0:w.alloc (.cells #[.string ⟨y.nm.toArray⟩,.int .i64 y.gm,.int .i64 y.rd,.slice yA y.ss.length y.c] 40)=w0 at *;clear hw0;have k3:=K0.out.at_ 3 rfl;have hlk:=K0.out.lt;go_wp2
  go_loopw [5] (fun s5 wv=>∃ k:Nat,k≤y.ss.length∧s5=.int .i64 k∧(∀ s∈y.ss.take k,inS tm s=false)∧wv=w0) (fun v _=>y.ss.length - (intOf v).toNat)
  case atStart=>exact ⟨0,Nat.zero_le _,rfl,by simp,rfl⟩
  case round=>
    obtain ⟨k,hk,rfl,hall,hw⟩:=hrel;replace hw:=hw.symm;subst hw;have ALL:=lh hall;clear hall;by_cases hlt:k < y.ss.length
    · have tk':decide ((k:Int) < (y.ss.length:Int))=true:=decide_eq_true (by omega);have hF:=lh (fun h=>EF.out k hlt ALL.out h);have hG:=lh (fun h=>q1f hlt ALL.out (P:=fun s=>inS tm s=false) h);obtain ⟨b,o,rfl,-,q0,q1,-,-,-,-⟩:=S.out.at_ hlt;generalize y.ss[k]'hlt=s at *;go_upto_region 4 with fail
      go_cut [30] from 6 to 31 (fun sx wx=>sx=.bool (inS tm s)∧wx=w0)
      case first=>
        by_cases c1:s.F≤tm
        · have tc1:decide (s.F≤tm)=true:=decide_eq_true (by omega);by_cases c2:tm≤s.T
          · have tc2:decide (tm≤s.T)=true:=decide_eq_true (by omega);go_wp2
            go_meet
            exact ⟨congrArg Value.bool (by first | rfl | (simp [inS]; omega)),rfl⟩
          · have tc2:decide (tm≤s.T)=false:=decide_eq_false (by omega);go_wp2
            go_meet
            exact ⟨congrArg Value.bool (by first | rfl | (simp [inS]; omega)),rfl⟩
        · have tc1:decide (s.F≤tm)=false:=decide_eq_false (by omega);go_wp2
          go_meet
          exact ⟨congrArg Value.bool (by first | rfl | (simp [inS]; omega)),rfl⟩
      case rest=>
        obtain ⟨rfl,hw⟩:=hcut;replace hw:=hw.symm;subst hw
        cases hz:inS tm s with
        | true=>
          have E:=lh (hF.out hz);go_wp2
          go_ret
          exact ⟨by rw [E.out]; rfl,B0.out⟩
        | false=>
          have E:=lh (hG.out hz);go_wp2
          go_roundw
          case rel=>exact ⟨k+1,by omega,by go_num,E.out,(by first | rfl | trivial)⟩
          case measure=>simp [intOf]; omega
    · obtain rfl:k=y.ss.length:=by omega
      have tk':decide ((y.ss.length:Int) < (y.ss.length:Int))=false:=decide_eq_false (by omega);have E:=lh (EN.out (by have:=ALL.out; rwa [List.take_length] at this));go_wp2
      go_ret
      exact ⟨by rw [E.out]; rfl,B0.out⟩
end Go.Proofs.YtghallnooijfhaaGreat
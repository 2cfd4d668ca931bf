import Derived.Test.YtgnjhlnolihgcaaGreatW28
import Derived.Test.YtgnjhlnolihgcaaGreatW21
import Derived.Test.YtgnjhlnolihgcaaGreatW2
import Derived.Test.YtgnjhlnolihgcaaGreatShelf
import Derived.Deep.CutRange
import Derived.Deep.RegionHeld3
set_option maxHeartbeats 4000000
set_option maxRecDepth 100000
namespace Go.Proofs.YtgnjhlnolihgcaaGreat
open Lib renaming hid → lh
open Go.RowKit
attribute [local go_sem ↓] Go.wp_at_zero Go.wp_at_succ
theorem lz_fit {x:Nat} (h0:0 < x) (hx:x < 4294967296):∃ s,s < 32∧q0s x+s=32∧x * 2 ^ s < 4294967296:=by
 have h1:q0s x≤32:=bitLenN_le hx;have h2:0 < q0s x:=(by unfold q0s; rw [if_neg (by omega)]; omega);have h3:x < 2 ^ q0s x:=(by unfold q0s; rw [if_neg (by omega)]; exact Nat.lt_log2_self);refine ⟨32 - q0s x,by omega,by omega,?_⟩;have h4:x * 2 ^ (32 - q0s x) < 2 ^ q0s x * 2 ^ (32 - q0s x):=Nat.mul_lt_mul_of_pos_right h3 (Nat.pow_pos (by omega));rw [← Nat.pow_add,show q0s x+(32 - q0s x)=32 by omega] at h4;exact h4
theorem divide_small (A1 A2:Option Addr) (l1 l2:List Nat) (c1 c2:Nat) (w:World) (hs1:Sl w A1 l1 c1) (hs2:Sl w A2 l2 c2) (k1:Canon l1) (k2:Canon l2) (hv:val l1 < val l2) :
  Calls Tryz.prog 164 #[.slice A1 l1.length c1,.slice A2 l2.length c2] w (LRes2 (limbs (val l1 / val l2)) (limbs (val l1 % val l2)) w):=by
 have Hcmp:=lh (cmpL_lt k1 k2 hv);rw [Nat.div_eq_of_lt hv,Nat.mod_eq_of_lt hv,canon_eq k1,limbs_zero];have Hs1:=lh hs1;have Hs2:=lh hs2;clear hs1 hs2 k1 k2 hv;go_enter Tryz.func164,Tryz.ntmps164
 go_wp2_with fail
 refine (q1a _ _ _ _ _ _ _ Hs1.out Hs2.out).mono ?_;rintro e w1 ⟨rfl,hb⟩;rw [Hcmp.out];have Hb:=lh hb;clear hb;go_wp2_with fail
 refine (clone_any _ _ _ _ (Hs1.out.below Hb.out)).mono ?_;rintro e w2 ⟨A',c',rfl,hown,hb2⟩;have Hsl:=lh (hown.sl Hs1.out.lim Hs1.out.len);have Hb2:=lh (q0a Hb.out hb2);clear hown hb2;go_wp2
 go_ret2
 exact ⟨none,0,A',c',rfl,Sl.nil _ _ _,Hsl.out,Hb2.out⟩
theorem divide_one (A1 A2:Option Addr) (l1:List Nat) (d:Nat) (c1 c2:Nat) (w:World) (hs1:Sl w A1 l1 c1) (hs2:Sl w A2 [d] c2) (k1:Canon l1) (k2:Canon [d]) (hv:val [d]≤val l1) (hlen:l1.length≤100000) :
  Calls Tryz.prog 164 #[.slice A1 l1.length c1,.slice A2 1 c2] w (LRes2 (limbs (val l1 / val [d])) (limbs (val l1 % val [d])) w):=by
 have hc0:=cmpL_ge k1 k2 hv;have hd:0 < d:=(by have:=k2.2 (by simp); simp at this; omega);have hd2:d < 4294967296:=hs2.lim d (by simp);have hvd:val [d]=d:=(by simp [val]);rw [hvd];have Hs1:=lh hs1;have Hs2:=lh hs2;clear hs1 hs2 k1 k2 hv hvd;have hcmp:=fun W h1 h2=>q1a A1 A2 l1 [d] c1 c2 W h1 h2;simp only [List.length_cons,List.length_nil,Nat.zero_add] at hcmp;generalize cmpL l1 [d]=z at *;have Hc:=lh hcmp;clear hcmp;go_enter Tryz.func164,Tryz.ntmps164
 go_wp2_with fail
 refine (Hc.out w Hs1.out Hs2.out).mono ?_;rintro e w1 ⟨rfl,hb⟩;have Hb:=lh hb;clear hb;obtain ⟨b2,o2,rfl,hx⟩:=(Hs2.out.below Hb.out).rd.at_ (k:=0) (by simp);simp only [Nat.add_zero,List.getElem?_cons_zero,Option.getD_some] at hx;go_wp2_with fail
 refine (short_any _ _ _ _ _ (Hs1.out.below Hb.out) (by omega) hd hd2).mono ?_;rintro e w2 ⟨A',c',rfl,hsl,hb2⟩;have Hsl:=lh hsl;have Hb2:=lh (q0a Hb.out hb2);have Hr:Hid (val l1 % d < 4294967296):=(by have:=Nat.mod_lt (val l1) hd; unfold Hid; omega);have Hv1:Hid (val [val l1 % d]=val l1 % d):=(by unfold Hid; simp [val]);clear hsl hb2 hx;generalize val l1 % d=r at *;generalize val l1 / d=q at *;have hr:=Hr.out;go_wp2_with fail
 have htr:=trim_any (some ⟨w2.heap.size,0,none⟩) [r] 1 (w2.alloc (.cells #[.int .u32 (r:Nat)] 146)) ⟨Rd.one _ _ _,lim_one hr,Nat.le_refl _,by simp⟩;have hst:=(Sl.trim (w:=w2.alloc (.cells #[.int .u32 (r:Nat)] 146)) (A:=some ⟨w2.heap.size,0,none⟩) (l:=[r]) (c:=1) ⟨Rd.one _ _ _,lim_one hr,Nat.le_refl _,by simp⟩);rw [Hv1.out] at htr hst;have Hst:=lh hst;refine htr.mono ?_;rintro e w3 ⟨rfl,rfl⟩;clear htr hst;go_wp2
 go_ret2
 exact ⟨A',c',_,1,rfl,Hsl.out.alloc _,Hst.out,Hb2.out.alloc Hb2.out.size _⟩
end Go.Proofs.YtgnjhlnolihgcaaGreat
namespace Go.Proofs.YtgnjhlnolihgcaaGreat
open Lib renaming hid → lh
open Go.RowKit
attribute [local go_sem ↓] Go.wp_at_zero Go.wp_at_succ
def GRes (n m:Nat) (w:World):Ending→World→Prop:=fun e w'=>
 ∃ g c r,e=.returned (.slice (some ⟨g,0,none⟩) m c)∧w.heap.size≤g∧Bx w' g r∧Lim r∧val r=n∧r.length=m∧m≤c∧Below w.heap.size w w'
theorem gres_of {P:Program} {f:FuncId} {args:Array Value} {n m:Nat} {w:World} (hm:0 < m) (h:Calls P f args w (ORes n m w)):Calls P f args w (GRes n m w):=by
 refine h.mono ?_;rintro e w' ⟨A,c,r,rfl,hown,hl,hv,hlen,hb⟩;have hle:=hown.le;obtain ⟨g,rfl,hg,hbx⟩:=hown.bx (by omega);exact ⟨g,c,r,by rw [hlen],hg,hbx,hl,hv,hlen,by omega,hb⟩
theorem Bx.slTake {w:World} {g:Nat} {l:List Nat} (h:Bx w g l) (hl:Lim l) {n c:Nat} (hn:n≤l.length) (hc:n≤c) (h63:n≤35184372088832):Sl w (some ⟨g,0,none⟩) (l.take n) c:=by
 have hln:(l.take n).length=n:=(by rw [List.length_take]; omega);exact ⟨h.rd0.take n,lim_take hl _,by omega,by omega⟩
theorem divide_long (A1 A2:Option Addr) (l1 l2:List Nat) (c1 c2:Nat) (w:World) (hs1:Sl w A1 l1 c1) (hs2:Sl w A2 l2 c2) (k1:Canon l1) (k2:Canon l2) (hv:val l2≤val l1) (hn2:2≤l2.length) (hlen:l1.length≤100000) :
  Calls Tryz.prog 164 #[.slice A1 l1.length c1,.slice A2 l2.length c2] w (LRes2 (limbs (val l1 / val l2)) (limbs (val l1 % val l2)) w):=by
 have hc0:=cmpL_ge k1 k2 hv;have hll:=q1b k2 k1 hv;have htop0:0 < l2[l2.length - 1]?.getD 0:=(by have:=k2.2 (by omega); omega);have htop1:=q0e k2.1 (l2.length - 1);obtain ⟨s,hs32,hbl,hts⟩:=lz_fit htop0 htop1;have Hnorm:=lh (norm_lt k2.1 hs32 (by omega) hts);have Hct:=lh (canon_top k2 (by omega))
 have Hlz:Hid ((32:Int) - (Lib.bitLen ((l2[l2.length - 1]?.getD 0:Nat):Int).toNat:Int)=(s:Int)):=by
  unfold Hid;rw [Int.toNat_natCast,bitLen_eq htop1]; omega
 have Hstart:Hid (∀ u m,val u=val l1 * 2 ^ s→m+l2.length=l1.length+1→val (u.drop m) < val l2 * 2 ^ s):=fun u m hu hm=>div_start k1.1 k2 (by omega) hu hm;have Hdone:Hid (∀ q r,q * (val l2 * 2 ^ s)+r=val l1 * 2 ^ s→r < val l2 * 2 ^ s→q=val l1 / val l2∧r / 2 ^ s=val l1 % val l2):=fun q r h1 h2=>div_done (Nat.pow_pos (by omega)) (q0i k2 (by omega)) h1 h2;have Hs1:=lh hs1;have Hs2:=lh hs2;have hV:=fun W (hW:Below w.heap.size w W)=>gres_of (by omega) (left_any A2 l2 c2 s W (hs2.below hW) (by omega) (by omega));have hU:=fun W (hW:Below w.heap.size w W)=>gres_of (by omega) (left_any A1 l1 c1 s W (hs1.below hW) (by omega) (by omega));rw [show s / 32=0 by omega,Nat.zero_add] at hV hU;obtain ⟨i0,hi,hz0,hz1,hz2⟩:=info_parts info32;obtain ⟨M,hM⟩:∃ M,M=l1.length+1:=⟨_,rfl⟩;obtain ⟨N1,hN1⟩:∃ N1,N1=l2.length+1:=⟨_,rfl⟩;rw [← hM] at hU;rw [← hN1] at hV;obtain ⟨L,hL⟩:∃ L,L=M - l2.length:=⟨_,rfl⟩;have hL1:(M:Int) - (l2.length:Int)=(L:Int):=(by omega);have hmk:=fun W=>q0n (P:=Tryz.prog) 44 146 i0 Tryz.underlying44 hi hz0 hz1 hz2 (L:Int) (L:Int) L L rfl rfl (Nat.le_refl _) (by omega) W;have hML:M=L+l2.length:=(by omega);have hM3:M≤100001:=(by omega);have HM:Hid (M=l1.length+1):=hM;have HML:Hid (M=L+l2.length):=hML;have hM4:l2.length+1≤M:=(by omega);have hM5:L≤M:=(by omega);have HN1:Hid (N1=l2.length+1):=hN1;have hn1N:l2.length≤N1:=(by omega);generalize hgx:l2[l2.length - 1]?.getD 0=x at *;have Hx:=lh hgx;generalize cmpL l1 l2=z at hc0;have Hc:Hid (∀ W,Sl W A1 l1 c1→Sl W A2 l2 c2→Calls Tryz.prog 161 #[.slice A1 l1.length c1,.slice A2 l2.length c2] W fun e w'=>e=.returned (.int .i64 (cmpL l1 l2))∧Below W.heap.size W w'):=fun W h1 h2=>q1a _ _ _ _ _ _ W h1 h2;have hz:0≤cmpL l1 l2:=cmpL_ge k1 k2 hv;generalize cmpL l1 l2=z at *;have hne1:((l2.length:Int) == 1)=false:=(by rw [beq_eq_false_iff_ne]; omega);clear hs1 hs2 k1 k2 hv hL hML hM hN1 hi hz0 hz1 hz2 hgx hts hbl;go_enter Tryz.func164,Tryz.ntmps164
 go_wp2_with fail
 refine (Hc.out w Hs1.out Hs2.out).mono ?_;rintro e w1 ⟨rfl,hb⟩;have Hb:=lh hb;clear hb;obtain ⟨b2,o2,rfl,hx⟩:=(Hs2.out.below Hb.out).rd.at_ (k:=l2.length - 1) (by omega);rw [Hx.out] at hx;go_wp2_with fail
 refine (Tryz.bits_LeadingZeros32 (x:Int) w1 (by omega) (by omega)).mono ?_;rw [Hlz.out];rintro e w2 ⟨rfl,rfl⟩;clear Hlz hx;go_wp2
 have HV:=lh hV;have HU:=lh hU;have HB0:=lh Hb.out.drew;clear hV hU
 go_region_held3 (fun _=>True) (exact trivial)
  (first
   | (go_at_call 173; refine (HV.out _ HB0.out).mono ?_; clear HV; rintro e wV ⟨gV,cV,rV,rfl,hgV,hbxV,hlV,hvV,hlenV,hcV,hbV⟩; have HbxV:=lh hbxV; have HlV:=lh hlV; have HvV:=lh hvV; have HlenV:=lh hlenV; have HbV:=lh hbV; have HB1:=lh (q0a HB0.out hbV); have hcV2:l2.length≤cV:=Nat.le_trans hn1N hcV; clear hbxV hlV hvV hlenV hbV)
   | (go_at_call 173; refine (HU.out _ HB1.out).mono ?_; clear HU; rintro e wU ⟨gU,cU,rU,rfl,hgU,hbxU,hlU,hvU,hlenU,hcU,hbU⟩; have HbxU:=lh hbxU; have HlU:=lh hlU; have HvU:=lh hvU; have HlenU:=lh hlenU; have HbU:=lh hbU; have HB2:=lh (q0a HB1.out hbU); clear hbxU hlU hvU hlenU hbU))
 have hgVU:gV < gU:=Nat.lt_of_lt_of_le HbxV.out.lt hgU;have hgV0:w.heap.size≤gV:=(by have h1:=HB0.out.size; simp at h1 hgV; omega);have hvlt:Hid (val rV < 4294967296 ^ l2.length):=(by unfold Hid; rw [HvV.out]; exact Hnorm.out);have Hvv:Hid (val (rV.take l2.length)=val l2 * 2 ^ s):=(val_take_of_lt hvlt.out).1.trans HvV.out;have HlimV:Hid (Lim (rV.take l2.length)):=lim_take HlV.out _;have HlenT:Hid ((rV.take l2.length).length=l2.length):=(by unfold Hid; rw [List.length_take,HlenV.out]; omega);have HSV:Hid (Sl wU (some ⟨gV,0,none⟩) (rV.take l2.length) cV):=(HbxV.out.kept HbU.out).slTake HlV.out (by rw [HlenV.out]; exact hn1N) (by omega) (by omega);have Hvtop:Hid (0 < (rV.take l2.length)[l2.length - 1]?.getD 0):=norm_top (by omega) HlenT.out HlimV.out Hct.out (by rw [Hvv.out]; exact Nat.le_mul_of_pos_right _ (Nat.pow_pos (by omega)));generalize rV.take l2.length=v at *;have Hst:=lh (Hstart.out rU L HvU.out (by rw [← HML.out]; exact HM.out));clear hvlt HbxV HlV HvV HlenV HbV HB1 HB0 Hstart;have hgUs:=HbxU.out.lt;have hzU:w.heap.size≤wU.heap.size:=HB2.out.size;go_wp2
 go_loopw [12] (fun jv wr=>∃ (m:Nat) (Q U:List Nat),jv=.int .i64 ((m:Int) - 1)∧m≤L∧Q.length=L∧Lim Q∧Bx wr wU.heap.size Q∧U.length=M∧Lim U∧Bx wr gU U∧Sl wr (some ⟨gV,0,none⟩) v cV ∧
   val (Q.drop m) * val v+val (U.drop m)=val (rU.drop m)∧val (U.drop m) < val v∧U.take m=rU.take m∧Below w.heap.size w wr) (fun jv _=>(intOf jv+1).toNat)
 case atStart=>exact ⟨L,List.replicate L 0,rU,rfl,Nat.le_refl _,by simp,q0g _,(Blk.zrow wU _ L).bx,HlenU.out,HlU.out,HbxU.out.alloc _,HSV.out.alloc _,by rw [List.drop_of_length_le (by simp)]; simp [val],by rw [Hvv.out]; exact Hst.out,rfl,HB2.out.alloc HB2.out.size _⟩
 case round=>
  obtain ⟨m,Q,U,rfl,hmL,hQl,hQlim,hQb,hUl,hUlim,hUb,hSv,hinv,hlt,htk,hb⟩:=hrel;have HQl:=lh hQl;have HQlim:=lh hQlim;have HQb:=lh hQb;have HUl:=lh hUl;have HUlim:=lh hUlim;have HUb:=lh hUb;have HSv:=lh hSv;have Hinv:=lh hinv;have Hlt:=lh hlt;have Htk:=lh htk;have Hbb:=lh hb;clear hQl hQlim hQb hUl hUlim hUb hSv hinv hlt htk hb
  cases m with
  | zero=>
   have Hd:Hid (val Q=val l1 / val l2∧val U / 2 ^ s=val l1 % val l2):=by
    have h1:=Hinv.out;have h2:=Hlt.out;simp only [List.drop_zero] at h1 h2;rw [HvU.out,Hvv.out] at h1;rw [Hvv.out] at h2;exact Hdone.out _ _ h1 h2
   have Hsu:Hid (Sl wr (some ⟨gU,0,none⟩) U cU):=⟨HUb.out.rd0,HUlim.out,by rw [HUl.out]; exact hcU,by rw [HUl.out]; omega⟩;have Hsq:Hid (Sl wr (some ⟨wU.heap.size,0,none⟩) Q L):=⟨HQb.out.rd0,HQlim.out,by rw [HQl.out]; exact Nat.le_refl _,by rw [HQl.out]; omega⟩;have htr:=trim_any (some ⟨gU,0,none⟩) U cU wr Hsu.out;rw [HUl.out] at htr
   have Htl:Hid ((limbs (val U)).length≤1000000):=by
    have h1:=trimN_le U U.length;rw [trim_len HUlim.out,HUl.out] at h1;unfold Hid; omega
   have Hst2:=lh Hsu.out.trim;go_wp2_with fail
   refine htr.mono ?_;rintro e w3 ⟨rfl,rfl⟩;clear htr;go_wp2_with fail
   refine (right_any _ _ _ s _ Hst2.out Htl.out (by omega)).mono ?_;rw [q0j];rintro e w4 ⟨A4,c4,o4,rfl,hs4,hv4,hl4,hb4⟩;have Hs4:=lh hs4;have Hv4:Hid (val o4=val l1 % val l2):=hv4.trans Hd.out.2;have Hb4:=lh (q0a Hbb.out hb4);have Hsq4:=lh (Hsq.out.below hb4);have Ht4:=lh hs4.trim;clear hs4 hv4 hl4 hb4;have htq:=trim_any (some ⟨wU.heap.size,0,none⟩) Q L w4 Hsq4.out;rw [HQl.out,Hd.out.1] at htq;have Htq4:Hid (Sl w4 (some ⟨wU.heap.size,0,none⟩) (limbs (val l1 / val l2)) L):=(by have h:=Hsq4.out.trim; rw [Hd.out.1] at h; exact h);go_wp2_with fail
   refine htq.mono ?_;rintro e w5 ⟨rfl,rfl⟩;clear htq;have htr4:=trim_any A4 o4 c4 w4 Hs4.out;have Ht5:Hid (Sl w4 A4 (limbs (val l1 % val l2)) c4):=(by have h:=Ht4.out; rw [Hv4.out] at h; exact h);rw [Hv4.out] at htr4;go_wp2_with fail
   refine htr4.mono ?_;rintro e w6 ⟨rfl,rfl⟩;clear htr4;go_wp2
   go_ret2
   exact ⟨some ⟨wU.heap.size,0,none⟩,L,A4,c4,rfl,Htq4.out,Ht5.out,Hb4.out⟩
  | succ m=>
   have hmU:m < M:=(by omega);obtain ⟨hsg1,hsg2,hsg3⟩:=div_seg (u:=U) (v:=v) (j:=m) (n:=l2.length) HUlim.out (by rw [HUl.out]; exact hmU) (by rw [Hvv.out]; exact Hnorm.out) Hlt.out;have hstep:=step_any gU m l2.length (cU - m) U v (some ⟨gV,0,none⟩) cV wr HUb.out HUlim.out HSv.out HlenT.out hn2 (by omega) (by rw [HUl.out]; omega) (by omega) Hvtop.out (by rw [hsg1]; exact hsg2);unfold StepRes at hstep;rw [HlenT.out,hsg1] at hstep;have e1:m+l2.length+1 - m=l2.length+1:=(by omega);have Hsg2:=lh hsg2;have Hsg3:=lh hsg3;have Hstep:=lh hstep;have hne:(m=cU)=False:=(by simp; omega);have hmc:m+l2.length+1≤cU:=(by omega);have hgU0:w.heap.size≤gU:=(by omega);have Hvp:Hid (0 < val v):=(by unfold Hid; have:=Hlt.out; omega);clear hsg1 hsg2 hsg3 hstep;have Hdv:Hid (val (U.drop m) / val v < 4294967296):=digit_lt Hsg2.out;go_wp2_with fail
   refine Hstep.out.mono ?_;rintro e w3 ⟨sg,rfl,hsl,hslim,hsv,hbx,hbut⟩;have HQ3:Hid (Bx w3 wU.heap.size Q):=HQb.out.but hbut (by omega);have HV3:Hid (Sl w3 (some ⟨gV,0,none⟩) v cV):=HSv.out.but (by rintro ad ⟨⟩; simp; omega) hbut;have HB3:Hid (Below w.heap.size w w3):=But.below' Hbb.out hbut hgU0;have HU3:=lh hbx;have Hsl:=lh hsl;have Hslim:=lh hslim;have Hrd:=lh (div_round (u:=U) (u0:=rU) (q:=Q) (s:=sg) (V:=val v) (d:=val (U.drop m) / val v) (by rw [HUl.out]; exact hmU) (by rw [HUl.out]; exact HlenU.out) (by rw [HQl.out]; omega) Htk.out (by rw [hsl]; exact Hsg3.out) Hinv.out (by rw [hsv,Nat.mul_comm]; exact Nat.div_add_mod _ _));have Hsv:Hid (val sg < val v):=(by unfold Hid; rw [hsv]; exact Nat.mod_lt _ Hvp.out);have hcell:w3.cell? ⟨wU.heap.size,m,none⟩=some (.int .u32 (Q[m]?.getD 0:Nat)):=HQ3.out.cell (by rw [HQl.out]; omega);have hfr:w3.frozen? ⟨wU.heap.size,m,none⟩=false:=HQ3.out.frozen m;clear hsl hslim hsv hbx hbut Hstep;generalize hdg:val (U.drop m) / val v=dg at *;clear hdg;go_wp2
   go_roundw
   case rel=>
    refine ⟨m,Q.set m dg,seg U m sg,by go_num,by omega,by rw [List.length_set]; exact HQl.out,q1c HQlim.out Hdv.out,HQ3.out.set rfl (by rw [HQl.out]; omega),by rw [seg_length (by rw [Hsl.out,HUl.out]; omega)]; exact HUl.out,lim_append (lim_take HUlim.out _) (lim_append Hslim.out (lim_drop HUlim.out _)),HU3.out.setFar (by simp; omega) _,?_,Hrd.out.1,?_,Hrd.out.2.2,HB3.out.setCell (p:=⟨wU.heap.size,m,none⟩) hzU _⟩
    ·refine ⟨fun hl=>?_,HV3.out.lim,HV3.out.le,HV3.out.len⟩;obtain ⟨b,o,e,hc⟩:=HV3.out.rd hl;cases e
     exact ⟨gV,0,rfl,fun i hi=>by rw [World.cell?_setCell_other _ _ _ _ (by simp <;> omega)]; exact hc i hi⟩
    ·have h:=Hrd.out.2.1;unfold seg;rw [h]; exact Hsv.out
   case measure=>simp [intOf]
end Go.Proofs.YtgnjhlnolihgcaaGreat
namespace Go.Proofs.YtgnjhlnolihgcaaGreat
open Lib renaming hid → lh
theorem divide_any (A1 A2:Option Addr) (l1 l2:List Nat) (c1 c2:Nat) (w:World) (hs1:Sl w A1 l1 c1) (hs2:Sl w A2 l2 c2) (k1:Canon l1) (k2:Canon l2) (hne:l2≠[]) (hlen:l1.length≤100000) :
  Calls Tryz.prog 164 #[.slice A1 l1.length c1,.slice A2 l2.length c2] w (LRes2 (limbs (val l1 / val l2)) (limbs (val l1 % val l2)) w):=by
 by_cases hv:val l1 < val l2
 ·exact divide_small A1 A2 l1 l2 c1 c2 w hs1 hs2 k1 k2 hv
 ·match l2,hne with
  | [d],_=>exact divide_one A1 A2 l1 d c1 c2 w hs1 hs2 k1 k2 (by omega) hlen
  | a :: b :: l,_=>exact divide_long A1 A2 l1 (a :: b :: l) c1 c2 w hs1 hs2 k1 k2 (by omega) (by simp) hlen
end Go.Proofs.YtgnjhlnolihgcaaGreat
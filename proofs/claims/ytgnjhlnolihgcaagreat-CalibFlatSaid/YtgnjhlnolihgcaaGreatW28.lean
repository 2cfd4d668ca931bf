import Derived.Test.YtgnjhlnolihgcaaGreatW26
set_option maxHeartbeats 4000000
set_option maxRecDepth 100000
namespace Go.Proofs.YtgnjhlnolihgcaaGreat
open Lib renaming hid → lh
open Go.RowKit Go.Shelf
attribute [local go_sem] Oper.semAt_some
theorem right_val (l:List Nat) (hl:Lim l) (k:Nat):val l / 2 ^ k=val (l.drop (min (k / 32) l.length)) / 2 ^ (k % 32)∧(decide (0 < val (l.take (min (k / 32) l.length))) || decide (0 < val (l.drop (min (k / 32) l.length)) % 2 ^ (k % 32)))=decide (0 < val l % 2 ^ k):=by
 have hp:=pow_split k;rcases Nat.le_total (k / 32) l.length with h | h
 ·rw [Nat.min_eq_left h];have h1:=val_split l (k / 32);have h2:=pv_lt hl (k / 32);have h3:val (l.take (k / 32))=pv l (k / 32):=rfl;rw [h3];generalize val (l.drop (k / 32))=D at *;generalize pv l (k / 32)=p at *;rw [← hp,h1];have hB:0 < 4294967296 ^ (k / 32):=Nat.pow_pos (by omega);generalize 4294967296 ^ (k / 32)=B at *;have hP:0 < 2 ^ (k % 32):=Nat.pow_pos (by omega);generalize 2 ^ (k % 32)=P at *;have e1:(p+B * D) / B=D:=by rw [Nat.add_mul_div_left _ _ hB,Nat.div_eq_of_lt h2,Nat.zero_add]
  have e2:(p+B * D) % (B * P)=p+B * (D % P):=by
   rw [Nat.mod_mul,e1,Nat.add_mul_mod_self_left,Nat.mod_eq_of_lt h2]
  constructor
  ·rw [← Nat.div_div_eq_div_mul,e1]
  ·rw [e2]
   have:0 < p+B * (D % P) ↔ 0 < p∨0 < D % P:=by
    constructor
    ·intro h0;rcases Nat.eq_zero_or_pos (D % P) with h4 | h4
     ·rw [h4] at h0; omega
     ·exact .inr h4
    ·rintro (h0 | h0)
     ·omega
     ·have:=Nat.mul_pos hB h0; omega
   rw [decide_eq_decide.2 this,Bool.decide_or]
 ·rw [Nat.min_eq_right h,List.take_length,List.drop_length];have h1:=val_lt hl;have h2:4294967296 ^ l.length≤4294967296 ^ (k / 32):=Nat.pow_le_pow_right (by omega) h;have h3:4294967296 ^ (k / 32) * 1≤4294967296 ^ (k / 32) * 2 ^ (k % 32):=Nat.mul_le_mul_left _ (Nat.pow_pos (by omega));rw [hp] at h3;have h4:val l < 2 ^ k:=(by omega);rw [Nat.div_eq_of_lt h4,Nat.mod_eq_of_lt h4];simp [val]
theorem Sl.dropA {w:World} {A:Option Addr} {l:List Nat} {c:Nat} (h:Sl w A l c) (n:Nat) (hn:n≤l.length):Sl w (Option.map (fun x=>x.add n) A) (l.drop n) (c - n):=by
 have h1:=h.le;have h2:=h.len;refine ⟨fun hl=>?_,lim_drop h.lim _,by rw [List.length_drop]; omega,by rw [List.length_drop]; omega⟩;rw [List.length_drop] at hl;obtain ⟨b,o,e,hc⟩:=h.rd (by omega);subst e;refine ⟨b,o+n,?_,fun i hi=>?_⟩
 ·unfold Addr.add; simp only [Option.map_some]; split <;> simp_all
 ·rw [List.length_drop] at hi;rw [Nat.add_assoc,hc (n+i) (by omega),List.getElem?_drop]
theorem and_mod (t s:Nat) (hs:s < 32) (ht:t < 18446744073709551616):bits .and .u64 (t:Int) ((2 ^ s - 1:Nat):Int)=((t % 2 ^ s:Nat):Int):=by
 have h2:=pow_s hs;have h3:0 < 2 ^ s:=Nat.pow_pos (by omega);rw [u64_and _ _ (by omega) (by omega) (by omega) (by omega)];congr 1
 rw [Int.toNat_natCast,Int.toNat_natCast,Nat.and_two_pow_sub_one_eq_mod]
theorem div_pow (N s:Nat):(N:Int) / 2 ^ s=((N / 2 ^ s:Nat):Int):=by
 have h:(2:Int) ^ s=((2 ^ s:Nat):Int):=(by push_cast; rfl);rw [h]; rfl
def RtI (g1 g2:Nat) (l:List Nat) (s:Nat) (pre:List { i:Nat // i < l.length }) (W:World):Prop:=
 ∃ (r:Nat) (o:List Nat),r < 2 ^ s∧o.length=l.length∧Lim o∧Blk W g1 146 o∧Boxed W g2 143 (.int .u64 (r:Nat)) ∧
  ((∃ rest,pre ++ rest=q1k l.length)→val (o.drop (l.length - pre.length))=val (l.drop (l.length - pre.length)) / 2 ^ s∧r=val (l.drop (l.length - pre.length)) % 2 ^ s)
theorem ownFrom_rtI (B g1 g2:Nat) (l:List Nat) (s:Nat) (h1:g1 < B) (h2:g2 < B):OwnFrom B (fun pre W=>RtI g1 g2 l s pre W):=by
 rintro pre W W' row ⟨r,o,hr,ho,hl,hb1,hb2,hc⟩ hg hrow;exact ⟨r,o,hr,ho,hl,own_block hb1 h1 hg hrow,own_block hb2 h2 hg hrow,hc⟩
def RightRes (q:Nat) (b:Bool) (m:Nat) (w:World):Ending→World→Prop:=fun e w'=>
 ∃ A c o,e=.returned (.tuple #[.slice A o.length c,.bool b])∧Sl w' A o c∧val o=q∧o.length≤m∧Below w.heap.size w w'
theorem right_any (A:Option Addr) (l:List Nat) (c k:Nat) (w:World) (hs:Sl w A l c) (hlen:l.length≤1000000) (hk:k≤1000000) :
  Calls Tryz.prog 174 #[.slice A l.length c,.int .i64 k] w (RightRes (val l / 2 ^ k) (decide (0 < val l % 2 ^ k)) l.length w):=by
 refine (callsIn_wide (n:=5)).1 ?_;obtain ⟨hrv1,hrv2⟩:=right_val l hs.lim k;obtain ⟨cut,hcut⟩:∃ cut,cut=min (k / 32) l.length:=⟨_,rfl⟩;obtain ⟨s,hss⟩:∃ s,s=k % 32:=⟨_,rfl⟩;rw [← hcut,← hss] at hrv1 hrv2;have hs32:s < 32:=(by omega);obtain ⟨kq,hkq⟩:∃ kq,kq=k / 32:=⟨_,rfl⟩;have hk1:(k:Int) / 32=(kq:Int):=(by omega);have hk2:(k:Int) % 32=(s:Int):=(by omega);obtain ⟨i0,hi,hz0,hz1,hz2⟩:=info_parts info32;have Hs:=lh hs;have hcc:=hs.le;have hkq2:kq≤1000000:=(by omega);rw [← hkq] at hcut;clear hkq;by_cases hle:kq≤l.length
 ·obtain rfl:cut=kq:=by omega
  clear hcut;by_cases hcq:cut < c
  ·have hne:((cut:Nat)=c)=False:=(by simp; omega);obtain ⟨m,hm⟩:∃ m,l.length - cut=m:=⟨_,rfl⟩;have hm2:(l.length:Int) - (cut:Int)=(m:Int):=(by omega);have hm3:m≤l.length:=(by omega);obtain ⟨D,hD⟩:∃ D,D=l.drop cut:=⟨_,rfl⟩;have HDl:Hid (D.length=m):=(by unfold Hid; rw [hD,List.length_drop]; omega);have HSD:Hid (Sl w (Option.map (fun x=>x.add cut) A) D (c - cut)):=(by unfold Hid; rw [hD]; exact hs.dropA cut hle);rw [← hD] at hrv1 hrv2;have hmk:=fun W=>q0n (P:=Tryz.prog) 44 146 i0 Tryz.underlying44 hi hz0 hz1 hz2 ((m:Nat):Int) ((m:Nat):Int) m m rfl rfl (Nat.le_refl _) (by omega) W;obtain ⟨fst,hfst⟩:∃ fst,decide (0 < val (l.take cut))=fst:=⟨_,rfl⟩;rw [hfst] at hrv2;have Hfst:=lh hfst;have Hrv1:=lh hrv1;have Hrv2:=lh hrv2;clear hs hi hz0 hz1 hz2 hss hrv1 hrv2 hD hfst
   have Hc:Hid (∀ W,Below w.heap.size w W→Calls Tryz.prog 208 #[.slice A cut c,.func (.func 209) #[] #[]] W fun e w'=>e=.returned (.bool fst)∧W=w'):=fun W hW=>by
    have hlt:(l.take cut).length=cut:=(by rw [List.length_take]; omega);have h:=q1h A (l.take cut) c W ⟨(Hs.out.rd.below hW).take _,lim_take Hs.out.lim _,by omega,by omega⟩;rw [hlt,Hfst.out] at h;exact h
   refine callsIn_of_wp_marks Tryz.func174 rfl trivial ?_ rfl;simp only [Tryz.ntmps174,List.size_toArray,List.length_cons,List.length_nil,Nat.reduceAdd,Nat.reduceSub,Array.replicate_succ,Array.replicate_zero,List.push_toArray,List.append_toArray,List.nil_append,List.cons_append]
   gi_wp2_with (first
    | (refine ⟨trivial,?_⟩; gi_at_call 208; refine (callsIn_wide.2 (Hc.out _ (blw1 _ _))).mono ?_; rintro e w' ⟨rfl,rfl⟩)
    | (refine ⟨trivial,?_⟩; gi_at_call 191; refine (down_in _ _ trivial rfl _ _ _ _).mono ?_; rintro e w' ⟨rfl,rfl⟩))
   clear hmk;have Q3:Hid ((((((w.alloc (.cells #[.int .i64 (k:Nat)] 3)).alloc (.cells (zrow m) 146)).alloc (.cells #[.slice (some ⟨w.heap.size+1,0,none⟩) m m] 44)).alloc (.cells #[.int .u64 0] 143)).alloc (.cells #[.slice (Option.map (fun x=>x.add cut) A) m (c - cut)] 44)).cell? ⟨w.heap.size,0,none⟩=some (.int .i64 k)):=(by unfold Hid; go_simp);have Q8:Hid ((((((w.alloc (.cells #[.int .i64 (k:Nat)] 3)).alloc (.cells (zrow m) 146)).alloc (.cells #[.slice (some ⟨w.heap.size+1,0,none⟩) m m] 44)).alloc (.cells #[.int .u64 0] 143)).alloc (.cells #[.slice (Option.map (fun x=>x.add cut) A) m (c - cut)] 44)).cell? ⟨w.heap.size+1+1,0,none⟩=some (.slice (some ⟨w.heap.size+1,0,none⟩) m m)):=(by unfold Hid; go_simp);have Qd:Hid ((((((w.alloc (.cells #[.int .i64 (k:Nat)] 3)).alloc (.cells (zrow m) 146)).alloc (.cells #[.slice (some ⟨w.heap.size+1,0,none⟩) m m] 44)).alloc (.cells #[.int .u64 0] 143)).alloc (.cells #[.slice (Option.map (fun x=>x.add cut) A) m (c - cut)] 44)).cell? ⟨w.heap.size+1+1+1+1,0,none⟩=some (.slice (Option.map (fun x=>x.add cut) A) D.length (c - cut))):=by unfold Hid; rw [HDl.out]; go_simp
   have G1:Hid (Blk (((((w.alloc (.cells #[.int .i64 (k:Nat)] 3)).alloc (.cells (zrow m) 146)).alloc (.cells #[.slice (some ⟨w.heap.size+1,0,none⟩) m m] 44)).alloc (.cells #[.int .u64 0] 143)).alloc (.cells #[.slice (Option.map (fun x=>x.add cut) A) m (c - cut)] 44)) (w.heap.size+1) 146 (List.replicate D.length 0)):=by
    have h:=Blk.zrow (w.alloc (.cells #[.int .i64 (k:Nat)] 3)) 146 m;rw [World.size_alloc] at h;unfold Hid;rw [HDl.out];exact ((h.alloc _).alloc _).alloc _
   have G2:Hid (Boxed (((((w.alloc (.cells #[.int .i64 (k:Nat)] 3)).alloc (.cells (zrow m) 146)).alloc (.cells #[.slice (some ⟨w.heap.size+1,0,none⟩) m m] 44)).alloc (.cells #[.int .u64 0] 143)).alloc (.cells #[.slice (Option.map (fun x=>x.add cut) A) m (c - cut)] 44)) (w.heap.size+1+1+1) 143 (.int .u64 (0:Nat))):=by
    have h:=Boxed.new (((w.alloc (.cells #[.int .i64 (k:Nat)] 3)).alloc (.cells (zrow m) 146)).alloc (.cells #[.slice (some ⟨w.heap.size+1,0,none⟩) m m] 44)) 143 (.int .u64 (0:Nat));simp only [World.size_alloc] at h;exact h.alloc _
   have HS:Hid (Sl (((((w.alloc (.cells #[.int .i64 (k:Nat)] 3)).alloc (.cells (zrow m) 146)).alloc (.cells #[.slice (some ⟨w.heap.size+1,0,none⟩) m m] 44)).alloc (.cells #[.int .u64 0] 143)).alloc (.cells #[.slice (Option.map (fun x=>x.add cut) A) m (c - cut)] 44)) (Option.map (fun x=>x.add cut) A) D (c - cut)):=((((HSD.out.alloc _).alloc _).alloc _).alloc _).alloc _
   have HF:Hid (0 < D.length→∀ ad,(Option.map (fun x=>x.add cut) A)=some ad→ad.block < w.heap.size):=by
    intro hl ad e;obtain ⟨b,o,e2,hc⟩:=HSD.out.rd hl;rw [e2] at e;cases e
    exact lt_of_cell (hc 0 hl)
   have HB0:Hid (Below w.heap.size w (((((w.alloc (.cells #[.int .i64 (k:Nat)] 3)).alloc (.cells (zrow m) 146)).alloc (.cells #[.slice (some ⟨w.heap.size+1,0,none⟩) m m] 44)).alloc (.cells #[.int .u64 0] 143)).alloc (.cells #[.slice (Option.map (fun x=>x.add cut) A) m (c - cut)] 44))):=(blw4 _ _ _ _ _).alloc (by simp <;> omega) _;have hsz:(((((w.alloc (.cells #[.int .i64 (k:Nat)] 3)).alloc (.cells (zrow m) 146)).alloc (.cells #[.slice (some ⟨w.heap.size+1,0,none⟩) m m] 44)).alloc (.cells #[.int .u64 0] 143)).alloc (.cells #[.slice (Option.map (fun x=>x.add cut) A) m (c - cut)] 44)).heap.size=w.heap.size+5:=(by simp);have hDl:=HDl.out;generalize ((((w.alloc (.cells #[.int .i64 (k:Nat)] 3)).alloc (.cells (zrow m) 146)).alloc (.cells #[.slice (some ⟨w.heap.size+1,0,none⟩) m m] 44)).alloc (.cells #[.int .u64 0] 143)).alloc (.cells #[.slice (Option.map (fun x=>x.add cut) A) m (c - cut)] 44)=W0 at *;have hps:=pow_s hs32;have hpp:0 < 2 ^ s:=Nat.pow_pos (by omega)
   refine wpIn_rangeFunc_ownG rfl (by omega) (gf:=227) (lb:=#[.pointer (some ⟨w.heap.size+1+1+1+1,0,none⟩)]) rfl trivial (enters_of Tryz.func227 (by kernel_rfl) rfl)
    (down1_in Fence.wide 4 trivial rfl (by omega) (w.heap.size+1+1+1+1) (c - cut) (Option.map (fun x=>x.add cut) A) D W0 HS.out.len (KpB W0.heap.size (w.heap.size+1) (w.heap.size+1+1+1)) (KpB W0.heap.size (w.heap.size+1) (w.heap.size+1+1+1) W0) (fun _ h=>KpB.of h) (fun _ _ h k=>h.trans k)
     (fun _ h=>⟨h.cell Qd.out (by simp; omega) (by simp <;> omega) (by simp <;> omega),h.sl HS.out (fun hl ad e=>by have:=HF.out hl ad e; omega)⟩)) (fun h k=>h.trans k) (fun W l _ o' hl _ _ _=>KpB.putObj W l o' hl) (Below.refl _ _) (fun _=>rfl)
    (fun pre W=>RtI (w.heap.size+1) (w.heap.size+1+1+1) D s pre W∧KpB W0.heap.size (w.heap.size+1) (w.heap.size+1+1+1) W0 W∧Below w.heap.size w W)
    (fun _ _ _=>False)
    (OwnFrom.and (ownFrom_rtI _ _ _ _ _ (by omega) (by omega)) (OwnFrom.and (ownFrom_kp (Nat.le_refl _)) (ownFrom_below (Nat.le_refl _) (by omega))))
    (fun _ _ _ _ _ hs _ _=>hs)
    ⟨⟨0,List.replicate D.length 0,hpp,by simp,q0g _,G1.out,G2.out,fun _=>by rw [List.length_nil,Nat.sub_zero,val_drop_end,List.drop_of_length_le (by simp)]; exact ⟨(Nat.zero_div _).symm,(Nat.zero_mod _).symm⟩⟩,KpB.refl _ _ _ _,HB0.out⟩
    (fun x=>{ tmps:=#[.slice A l.length c,.int .i64 k,undef,.pointer (some ⟨w.heap.size,0,none⟩),.slice none 0 0,.bool false,.int .i64 ((cut:Nat):Int),.bool fst,.pointer (some ⟨w.heap.size+1+1,0,none⟩),.pointer (some ⟨w.heap.size+1+1+1,0,none⟩),.int .i64 (x.1:Int),.int .u32 (D[x.1]?.getD 0:Nat),.int .i64 k,.int .i64 ((cut:Nat):Int),.slice A l.length c,.int .i64 l.length,.int .i64 ((cut:Nat):Int),.slice A l.length c,.int .i64 ((cut:Nat):Int),.slice A cut c,.bool fst,.slice A l.length c,.int .i64 l.length,.int .i64 ((cut:Nat):Int),.int .i64 (m:Int),.slice (some ⟨w.heap.size+1,0,none⟩) m m,.slice A l.length c,.int .i64 ((cut:Nat):Int),.slice (Option.map (fun x=>x.add cut) A) m (c - cut),
     .func (.func 227) #[] #[.pointer (some ⟨w.heap.size+1+1+1+1,0,none⟩)],.int .i64 (x.1:Int),.int .u32 (D[x.1]?.getD 0:Nat),undef,undef,undef,undef,undef,undef,undef,undef,undef,undef,undef,undef,undef,undef,undef,undef,undef,undef,undef,undef,undef,undef,undef,undef,undef],defers:=[] }) ?assign ?body ?done ?stop
   case assign=>
    intro l' x W K hK;simp only [encD];gi_wp2
    exact hK
   case body=>
    rintro l' pre x W ⟨⟨r,o,hr,hol,holim,hb1,hb2,hcond⟩,hK,hB⟩ _;have hx1:=x.2;have q3:=hK.cell Q3.out (by simp; omega) (by simp <;> omega) (by simp <;> omega);have q8:=hK.cell Q8.out (by simp; omega) (by simp <;> omega) (by simp <;> omega);have q9:=hb2.cell;have f9:=hb2.frozen;have q1:W.cell? ⟨w.heap.size+1,x.1,none⟩=some (.int .u32 (o[x.1]?.getD 0:Nat)):=hb1.cell (by omega);have f1:W.frozen? ⟨w.heap.size+1,x.1,none⟩=false:=hb1.frozen _;have hx2:=q0e HS.out.lim x.1;have Hol:=lh hol;have Hlim:=lh holim;have Hb1:=lh hb1;have Hb2:=lh hb2;have Hcond:=lh hcond;have HK:=lh hK;have HB:=lh hB;have Hqlt:=lh (ldiv_lt hr hx2);have Hrlt:Hid ((r * 4294967296+D[x.1]?.getD 0) % 2 ^ s < 2 ^ s):=Nat.mod_lt _ hpp;have Hst:Hid (val (o.drop (x.1+1))=val (D.drop (x.1+1)) / 2 ^ s→r=val (D.drop (x.1+1)) % 2 ^ s→val ((o.set x.1 ((r * 4294967296+D[x.1]?.getD 0) / 2 ^ s)).drop x.1)=val (D.drop x.1) / 2 ^ s∧(r * 4294967296+D[x.1]?.getD 0) % 2 ^ s=val (D.drop x.1) % 2 ^ s):=fun ha hb=>ldiv_step hpp hx1 Hol.out ha hb;have hr32:r < 4294967296:=(by omega);have hxm:x.1 < m:=(by omega);clear hol holim hb1 hb2 hcond hK hB;generalize hy:D[x.1]?.getD 0=y at *;have Hy:=lh hy;clear hy;have hor:=or_lo32 r y hr32 hx2;have hk3:(k:Int).tmod 32=(s:Int):=(by rw [Int.tmod_eq_emod_of_nonneg (by omega)]; exact hk2);have ht64:r * 4294967296+y < 18446744073709551616:=(by omega);have hand:=and_mod (r * 4294967296+y) s hs32 ht64;have hshr:((r * 4294967296+y:Nat):Int) / 2 ^ s=(((r * 4294967296+y) / 2 ^ s:Nat):Int):=div_pow _ _;generalize hqq:(r * 4294967296+y) / 2 ^ s=q at *;generalize hrr:(r * 4294967296+y) % 2 ^ s=r2 at *;generalize htt:r * 4294967296+y=t at *;clear hqq hrr htt;have hq32:=Hqlt.out;have hw32:IntKind.u32.wrap (q:Int)=(q:Int):=(by rw [IntKind.wrap_u32]; omega);have Hand:=lh hand;gi_wp2
    generalize hWt:W.setCell ⟨w.heap.size+1+1+1,0,none⟩ (.int .u64 (t:Nat))=Wt at *;have HWt:=lh hWt;have p8:Wt.cell? ⟨w.heap.size+1+1,0,none⟩=some (.slice (some ⟨w.heap.size+1,0,none⟩) m m):=(by rw [← hWt,World.cell?_setCell_other _ _ _ _ (by simp <;> omega)]; exact q8);have p3:Wt.cell? ⟨w.heap.size,0,none⟩=some (.int .i64 k):=(by rw [← hWt,World.cell?_setCell_other _ _ _ _ (by simp <;> omega)]; exact q3);have HB2:Hid (Boxed Wt (w.heap.size+1+1+1) 143 (.int .u64 (t:Nat))):=(by unfold Hid; rw [← hWt]; exact Hb2.out.set _);have HB1:Hid (Blk Wt (w.heap.size+1) 146 o):=(by unfold Hid; rw [← hWt]; exact Hb1.out.far (by simp <;> omega) _);have p9:=HB2.out.cell;have g9:=HB2.out.frozen;have p1:Wt.cell? ⟨w.heap.size+1,x.1,none⟩=some (.int .u32 (o[x.1]?.getD 0:Nat)):=HB1.out.cell (by rw [Hol.out]; omega);have g1:Wt.frozen? ⟨w.heap.size+1,x.1,none⟩=false:=HB1.out.frozen _;have Hkp0:Hid (KpB W0.heap.size (w.heap.size+1) (w.heap.size+1+1+1) W Wt):=(by unfold Hid; rw [← hWt]; exact (KpB.refl _ _ _ _).set2 _ _);have Hkf0:Hid (KeepsFrom W0.heap.size W Wt):=(by unfold Hid; rw [← hWt]; exact (KeepsOthers.setCell _ _ _).from _);have HBw:Hid (Below w.heap.size w Wt):=(by unfold Hid; rw [← hWt]; exact HB.out.setCell (p:=⟨w.heap.size+1+1+1,0,none⟩) (by simp <;> omega) _);clear hWt HWt q1 f1 q3 q8 q9 f9 hand;refine wpIn_region_heldR (S:=fun w'=>w'.cell? ⟨w.heap.size+1+1,0,none⟩=some (.slice (some ⟨w.heap.size+1,0,none⟩) m m)∧w'.cell? ⟨w.heap.size,0,none⟩=some (.int .i64 k)∧w'.cell? ⟨w.heap.size+1+1+1,0,none⟩=some (.int .u64 (t:Nat))) (by kernel_rfl) (by kernel_rfl) (fun ⟨_,_,h⟩=>h) ⟨p8,p3,p9⟩ (fun hHeld=>?_);refine wpAnyH_take (i:=0) (v:=.slice (some ⟨w.heap.size+1,0,none⟩) m m) rfl (by kernel_rfl) (by kernel_rfl) (by kernel_rfl) (fun _ _ _ h=>h) (Or.inl ⟨by rfl,?_⟩) (by assumption) ?_
    ·(intro w hSw; (try dsimp only at hSw); go_simp)
    simp only [Act.put,List.setIfInBounds_toArray];refine wpAnyH_take (i:=1) (v:=.int .i64 (x.1:Int)) rfl (by kernel_rfl) (by kernel_rfl) (by kernel_rfl) (fun _ _ _ h=>h) (Or.inl ⟨by rfl,?_⟩) (by assumption) ?_
    ·(intro w hSw; (try dsimp only at hSw); go_simp)
    simp only [Act.put];refine wpAnyH_take (i:=2) (v:=.int .u64 (t:Nat)) rfl (by kernel_rfl) (by kernel_rfl) (by kernel_rfl) (fun _ _ _ h=>h) (Or.inl ⟨by rfl,?_⟩) (by assumption) ?_
    ·(intro w hSw; (try dsimp only at hSw); go_simp)
    simp only [Act.put];refine wpAnyH_take (i:=3) (v:=.int .i64 (k:Nat)) rfl (by kernel_rfl) (by kernel_rfl) (by kernel_rfl) (fun _ _ _ h=>h) (Or.inl ⟨by rfl,?_⟩) (by assumption) ?_
    ·(intro w hSw; (try dsimp only at hSw); go_simp)
    simp only [Act.put];refine wpAnyH_take (i:=4) (v:=.int .i64 (s:Nat)) rfl (by kernel_rfl) (by kernel_rfl) (by kernel_rfl) (fun _ _ _ h=>h) (Or.inl ⟨by rfl,?_⟩) (by assumption) ?_
    ·(intro w hSw; (try dsimp only at hSw); go_simp)
    simp only [Act.put];refine wpAnyH_take (i:=5) (v:=.int .u64 (q:Nat)) rfl (by kernel_rfl) (by kernel_rfl) (by kernel_rfl) (fun _ _ _ h=>h) (Or.inl ⟨by rfl,?_⟩) (by assumption) ?_
    ·(intro w hSw; (try dsimp only at hSw); go_simp)
    simp only [Act.put];refine wpAnyH_take (i:=6) (v:=.int .u32 (q:Nat)) rfl (by kernel_rfl) (by kernel_rfl) (by kernel_rfl) (fun _ _ _ h=>h) (Or.inl ⟨by rfl,?_⟩) (by assumption) ?_
    ·(intro w hSw; (try dsimp only at hSw); go_simp)
    simp only [Act.put];refine wpAnyH_take (i:=7) (v:=.pointer (some ⟨w.heap.size+1,x.1,none⟩)) rfl (by kernel_rfl) (by kernel_rfl) (by kernel_rfl) (fun _ _ _ h=>h) (Or.inl ⟨by rfl,?_⟩) (by assumption) ?_
    ·(intro w hSw; (try dsimp only at hSw); go_simp)
    simp only [Act.put];refine wpAnyH_ready (rs:=[8]) (by kernel_rfl) (by simp) ?_;refine AllReadyH.cons rfl (fun K hK=>?_) AllReadyH.nil;go_simp
    refine hK.out _ _ ⟨(World.cell?_setCell_other _ _ _ _ (by simp <;> omega)).trans hHeld.1,(World.cell?_setCell_other _ _ _ _ (by simp <;> omega)).trans hHeld.2.1,(World.cell?_setCell_other _ _ _ _ (by simp <;> omega)).trans hHeld.2.2⟩ (fun hHeld=>?_);clear hK K;refine wpAnyH_done (by kernel_rfl) ?_ _;clear hHeld;generalize hWu:(Wt.setCell ⟨w.heap.size+1,x.1,none⟩ (.int .u32 (q:Nat))).drew=Wu at *;have r8:Wu.cell? ⟨w.heap.size+1+1,0,none⟩=some (.slice (some ⟨w.heap.size+1,0,none⟩) m m):=(by rw [← hWu]; exact (World.cell?_setCell_other _ _ _ _ (by simp)).trans p8);have r3:Wu.cell? ⟨w.heap.size,0,none⟩=some (.int .i64 k):=by rw [← hWu]; exact (World.cell?_setCell_other _ _ _ _ (by simp <;> omega)).trans p3
    have HC2:Hid (Boxed Wu (w.heap.size+1+1+1) 143 (.int .u64 (t:Nat))):=by
     unfold Hid;rw [← hWu]; exact (Below.heap_setCell Wt ⟨w.heap.size+1,x.1,none⟩ _ _ (by simp <;> omega)).trans HB2.out
    have HC1:Hid (Blk Wu (w.heap.size+1) 146 (o.set x.1 q)):=(by unfold Hid; rw [← hWu]; exact (HB1.out.set_ _ _).drew);have r9:=HC2.out.cell;have s9:=HC2.out.frozen;have Hkp1:Hid (KpB W0.heap.size (w.heap.size+1) (w.heap.size+1+1+1) W Wu):=(by unfold Hid; rw [← hWu]; exact (Hkp0.out.set1 _ _).drew);have Hkf1:Hid (KeepsFrom W0.heap.size W Wu):=(by unfold Hid; rw [← hWu]; exact Hkf0.out.trans (((KeepsOthers.setCell _ _ _).from _).trans (keeps_drew _ _)));have HBu:Hid (Below w.heap.size w Wu):=(by unfold Hid; rw [← hWu]; exact (HBw.out.setCell (p:=⟨w.heap.size+1,x.1,none⟩) (by simp <;> omega) _).drew);clear hWu p1 g1 p8 p3 p9 g9;gi_wp2
    obtain ⟨p,hp⟩:∃ p,p=2 ^ s:=⟨_,rfl⟩
    have hw1:IntKind.u64.wrap (2 ^ s)=(p:Int):=by
     rw [show (2:Int) ^ s=(p:Int) by rw [hp]; push_cast; rfl,IntKind.wrap_u64];omega
    have hw2:IntKind.u64.wrap ((p:Int) - 1)=(p:Int) - 1:=by rw [IntKind.wrap_u64]; omega
    have hand:bits .and .u64 (t:Int) ((p:Int) - 1)=(r2:Int):=by
     rw [show (p:Int) - 1=((2 ^ s - 1:Nat):Int) by omega];exact Hand.out
    clear hp;refine wpIn_region_heldR (S:=fun w'=>w'.cell? ⟨w.heap.size+1+1,0,none⟩=some (.slice (some ⟨w.heap.size+1,0,none⟩) m m)∧w'.cell? ⟨w.heap.size,0,none⟩=some (.int .i64 k)) (by kernel_rfl) (by kernel_rfl) (fun ⟨_,_,h⟩=>h) ⟨r8,r3⟩ (fun hHeld=>?_);refine wpAnyH_take (i:=1) (v:=.int .i64 (k:Nat)) rfl (by kernel_rfl) (by kernel_rfl) (by kernel_rfl) (fun _ _ _ h=>h) (Or.inl ⟨by rfl,?_⟩) (by assumption) ?_
    ·(intro w hSw; (try dsimp only at hSw); go_simp)
    simp only [Act.put];refine wpAnyH_take (i:=2) (v:=.int .i64 (s:Nat)) rfl (by kernel_rfl) (by kernel_rfl) (by kernel_rfl) (fun _ _ _ h=>h) (Or.inl ⟨by rfl,?_⟩) (by assumption) ?_
    ·(intro w hSw; (try dsimp only at hSw); go_simp)
    simp only [Act.put];refine wpAnyH_take (i:=3) (v:=.int .u64 (p:Nat)) rfl (by kernel_rfl) (by kernel_rfl) (by kernel_rfl) (fun _ _ _ h=>h) (Or.inl ⟨by rfl,?_⟩) (by assumption) ?_
    ·(intro w hSw; (try dsimp only at hSw); go_simp)
    simp only [Act.put];refine wpAnyH_take (i:=4) (v:=.int .u64 ((p:Int) - 1)) rfl (by kernel_rfl) (by kernel_rfl) (by kernel_rfl) (fun _ _ _ h=>h) (Or.inl ⟨by rfl,?_⟩) (by assumption) ?_
    ·(intro w hSw; (try dsimp only at hSw); go_simp)
    simp only [Act.put];refine wpAnyH_ready (rs:=[0]) (by kernel_rfl) (by simp) ?_;refine AllReadyH.cons rfl (fun K hK=>?_) AllReadyH.nil;go_simp
    refine hK.out _ _ hHeld (fun hHeld=>?_);clear hK K;refine wpAnyH_take (i:=5) (v:=.int .u64 (r2:Nat)) rfl (by kernel_rfl) (by kernel_rfl) (by kernel_rfl) (fun _ _ _ h=>h) (Or.inl ⟨by rfl,?_⟩) (by assumption) ?_
    ·(intro w hSw; (try dsimp only at hSw); go_simp)
    simp only [Act.put];refine wpAnyH_ready (rs:=[6]) (by kernel_rfl) (by simp) ?_;refine AllReadyH.cons rfl (fun K hK=>?_) AllReadyH.nil;go_simp
    refine hK.out _ _ ⟨(World.cell?_setCell_other _ _ _ _ (by simp <;> omega)).trans hHeld.1,(World.cell?_setCell_other _ _ _ _ (by simp <;> omega)).trans hHeld.2⟩ (fun hHeld=>?_);clear hK K;refine wpAnyH_done (by kernel_rfl) ?_ _;have hkp:KpB W0.heap.size (w.heap.size+1) (w.heap.size+1+1+1) W (Wu.drew.setCell ⟨w.heap.size+1+1+1,0,none⟩ (.int .u64 (r2:Nat))):=Hkp1.out.drew.set2 _ _;refine ⟨Hkf1.out.trans ((keeps_drew _ _).trans ((KeepsOthers.setCell _ _ _).from _)),hkp,⟨r2,o.set x.1 q,Hrlt.out,by rw [List.length_set]; exact Hol.out,q1c Hlim.out Hqlt.out,HC1.out.drew.far (by simp <;> omega) _,?_,fun hp=>?_⟩,HK.out.trans hkp,HBu.out.drew.setCell (p:=⟨w.heap.size+1+1+1,0,none⟩) (by simp <;> omega) _⟩
    ·have h0:Boxed Wu.drew (w.heap.size+1+1+1) 143 (.int .u64 (t:Nat)):=HC2.out;exact h0.set _
    obtain ⟨hp1,hp2⟩:=down_next hp;have hc:=Hcond.out hp1;rw [show D.length - pre.length=x.1+1 by omega] at hc;rw [show D.length - (pre ++ [x]).length=x.1 by rw [List.length_append]; simp; omega];exact Hst.out hc.1 hc.2
   case done=>
    rintro D' ys W hD' rfl ⟨⟨r,o,hr,hol,holim,hb1,hb2,hcond⟩,hK,hB⟩ hDf;have hc:=hcond ⟨[],by simp⟩;rw [downAll_len,Nat.sub_self,List.drop_zero,List.drop_zero] at hc;have q8:=hK.cell Q8.out (by simp; omega) (by simp <;> omega) (by simp <;> omega);have q9:=hb2.cell;have Hso:Hid (Sl W (some ⟨w.heap.size+1,0,none⟩) o m):=⟨hb1.rd,holim,by omega,by omega⟩;have Hol:Hid (o.length=m):=hol.trans HDl.out;have Hvo:Hid (val o=val l / 2 ^ k):=hc.1.trans Hrv1.out.symm;have Hbo:Hid ((fst || decide (0 < r))=decide (0 < val l % 2 ^ k)):=(by unfold Hid; rw [hc.2]; exact Hrv2.out);have HB:=lh hB;clear hcond hc hb1 hb2 hol holim hK hB;cases fst
    ·gi_wp2
     refine wpIn_wide.2 ?_;go_quiet (fail)
     gi_wp2
     refine ⟨by simp,.inl ⟨_,_,rfl,run_takeDeferred (w:=W.drewN nq) hDf,?_⟩⟩;refine ⟨.tuple #[.slice (some ⟨w.heap.size+1,0,none⟩) m m,.bool (decide (0 < r))],?_,?_⟩
     ·simp [results,Tryz.f174,go_sem]
     ·have hbp:Below W0.heap.size (W.drewN nq) ((W.drewN nq).putObj D' (.deferred none)):=belowK_b (w:=W0) (Nat.le_refl _) (W.drewN nq) D' _ _ hD' hDf rfl rfl;exact ⟨some ⟨w.heap.size+1,0,none⟩,m,o,by rw [← Hbo.out,Hol.out,Bool.false_or],Sl.keepB (w:=W.drewN nq) ⟨Hso.out.rd,Hso.out.lim,Hso.out.le,Hso.out.len⟩ hbp (by omega),Hvo.out,by rw [Hol.out]; omega,(below_drewN HB.out nq).trans (hbp.mono (by omega))⟩
    ·gi_wp2
     refine wpIn_wide.2 ?_;go_quiet (fail)
     gi_wp2
     refine ⟨by simp,.inl ⟨_,_,rfl,run_takeDeferred (w:=W.drewN nq) hDf,?_⟩⟩;refine ⟨.tuple #[.slice (some ⟨w.heap.size+1,0,none⟩) m m,.bool true],?_,?_⟩
     ·simp [results,Tryz.f174,go_sem]
     ·have hbp:Below W0.heap.size (W.drewN nq) ((W.drewN nq).putObj D' (.deferred none)):=belowK_b (w:=W0) (Nat.le_refl _) (W.drewN nq) D' _ _ hD' hDf rfl rfl;exact ⟨some ⟨w.heap.size+1,0,none⟩,m,o,by rw [← Hbo.out,Hol.out,Bool.true_or],Sl.keepB (w:=W.drewN nq) ⟨Hso.out.rd,Hso.out.lim,Hso.out.le,Hso.out.len⟩ hbp (by omega),Hvo.out,by rw [Hol.out]; omega,(below_drewN HB.out nq).trans (hbp.mono (by omega))⟩
   case stop=>
    rintro D' c' pre W _ _ h _;exact h.elim
  ·obtain rfl:c=cut:=by omega
   obtain rfl:c=l.length:=by omega
   obtain ⟨D,hD⟩:∃ D,D=l.drop l.length:=⟨_,rfl⟩;have HDl:Hid (D.length=0):=(by unfold Hid; rw [hD,List.length_drop]; omega);have HSD:Hid (Sl w A D 0):=(by unfold Hid; have h0:D=[]:=(by rw [hD]; simp); rw [h0]; exact Sl.nil _ _ _);rw [← hD] at hrv1 hrv2;have hmk:=fun W=>q0n (P:=Tryz.prog) 44 146 i0 Tryz.underlying44 hi hz0 hz1 hz2 ((0:Nat):Int) ((0:Nat):Int) 0 0 rfl rfl (Nat.le_refl _) (by omega) W;simp only [Int.ofNat_zero] at hmk;obtain ⟨fst,hfst⟩:∃ fst,decide (0 < val (l.take l.length))=fst:=⟨_,rfl⟩;rw [hfst] at hrv2;have Hfst:=lh hfst;have Hrv1:=lh hrv1;have Hrv2:=lh hrv2;clear hs hi hz0 hz1 hz2 hss hrv1 hrv2 hD hfst
   have Hc:Hid (∀ W,Below w.heap.size w W→Calls Tryz.prog 208 #[.slice A l.length l.length,.func (.func 209) #[] #[]] W fun e w'=>e=.returned (.bool fst)∧W=w'):=fun W hW=>by
    have hlt:(l.take l.length).length=l.length:=(by rw [List.length_take]; omega);have h:=q1h A (l.take l.length) l.length W ⟨(Hs.out.rd.below hW).take _,lim_take Hs.out.lim _,by omega,by omega⟩;rw [hlt,Hfst.out] at h;exact h
   refine callsIn_of_wp_marks Tryz.func174 rfl trivial ?_ rfl;simp only [Tryz.ntmps174,List.size_toArray,List.length_cons,List.length_nil,Nat.reduceAdd,Nat.reduceSub,Array.replicate_succ,Array.replicate_zero,List.push_toArray,List.append_toArray,List.nil_append,List.cons_append]
   gi_wp2_with (first
    | (refine ⟨trivial,?_⟩; gi_at_call 208; refine (callsIn_wide.2 (Hc.out _ (blw1 _ _))).mono ?_; rintro e w' ⟨rfl,rfl⟩)
    | (refine ⟨trivial,?_⟩; gi_at_call 191; refine (down_in _ _ trivial rfl _ _ _ _).mono ?_; rintro e w' ⟨rfl,rfl⟩))
   clear hmk;have Q3:Hid ((((((w.alloc (.cells #[.int .i64 (k:Nat)] 3)).alloc (.cells (zrow 0) 146)).alloc (.cells #[.slice (some ⟨w.heap.size+1,0,none⟩) 0 0] 44)).alloc (.cells #[.int .u64 0] 143)).alloc (.cells #[.slice A 0 0] 44)).cell? ⟨w.heap.size,0,none⟩=some (.int .i64 k)):=(by unfold Hid; go_simp);have Q8:Hid ((((((w.alloc (.cells #[.int .i64 (k:Nat)] 3)).alloc (.cells (zrow 0) 146)).alloc (.cells #[.slice (some ⟨w.heap.size+1,0,none⟩) 0 0] 44)).alloc (.cells #[.int .u64 0] 143)).alloc (.cells #[.slice A 0 0] 44)).cell? ⟨w.heap.size+1+1,0,none⟩=some (.slice (some ⟨w.heap.size+1,0,none⟩) 0 0)):=(by unfold Hid; go_simp);have Qd:Hid ((((((w.alloc (.cells #[.int .i64 (k:Nat)] 3)).alloc (.cells (zrow 0) 146)).alloc (.cells #[.slice (some ⟨w.heap.size+1,0,none⟩) 0 0] 44)).alloc (.cells #[.int .u64 0] 143)).alloc (.cells #[.slice A 0 0] 44)).cell? ⟨w.heap.size+1+1+1+1,0,none⟩=some (.slice A D.length 0)):=by unfold Hid; rw [HDl.out]; go_simp
   have G1:Hid (Blk (((((w.alloc (.cells #[.int .i64 (k:Nat)] 3)).alloc (.cells (zrow 0) 146)).alloc (.cells #[.slice (some ⟨w.heap.size+1,0,none⟩) 0 0] 44)).alloc (.cells #[.int .u64 0] 143)).alloc (.cells #[.slice A 0 0] 44)) (w.heap.size+1) 146 (List.replicate D.length 0)):=by
    have h:=Blk.zrow (w.alloc (.cells #[.int .i64 (k:Nat)] 3)) 146 0;rw [World.size_alloc] at h;unfold Hid;rw [HDl.out];exact ((h.alloc _).alloc _).alloc _
   have G2:Hid (Boxed (((((w.alloc (.cells #[.int .i64 (k:Nat)] 3)).alloc (.cells (zrow 0) 146)).alloc (.cells #[.slice (some ⟨w.heap.size+1,0,none⟩) 0 0] 44)).alloc (.cells #[.int .u64 0] 143)).alloc (.cells #[.slice A 0 0] 44)) (w.heap.size+1+1+1) 143 (.int .u64 (0:Nat))):=by
    have h:=Boxed.new (((w.alloc (.cells #[.int .i64 (k:Nat)] 3)).alloc (.cells (zrow 0) 146)).alloc (.cells #[.slice (some ⟨w.heap.size+1,0,none⟩) 0 0] 44)) 143 (.int .u64 (0:Nat));simp only [World.size_alloc] at h;exact h.alloc _
   have HS:Hid (Sl (((((w.alloc (.cells #[.int .i64 (k:Nat)] 3)).alloc (.cells (zrow 0) 146)).alloc (.cells #[.slice (some ⟨w.heap.size+1,0,none⟩) 0 0] 44)).alloc (.cells #[.int .u64 0] 143)).alloc (.cells #[.slice A 0 0] 44)) A D 0):=((((HSD.out.alloc _).alloc _).alloc _).alloc _).alloc _
   have HF:Hid (0 < D.length→∀ ad,A=some ad→ad.block < w.heap.size):=by
    intro hl ad e;obtain ⟨b,o,e2,hc⟩:=HSD.out.rd hl;rw [e2] at e;cases e
    exact lt_of_cell (hc 0 hl)
   have HB0:Hid (Below w.heap.size w (((((w.alloc (.cells #[.int .i64 (k:Nat)] 3)).alloc (.cells (zrow 0) 146)).alloc (.cells #[.slice (some ⟨w.heap.size+1,0,none⟩) 0 0] 44)).alloc (.cells #[.int .u64 0] 143)).alloc (.cells #[.slice A 0 0] 44))):=(blw4 _ _ _ _ _).alloc (by simp <;> omega) _;have hsz:(((((w.alloc (.cells #[.int .i64 (k:Nat)] 3)).alloc (.cells (zrow 0) 146)).alloc (.cells #[.slice (some ⟨w.heap.size+1,0,none⟩) 0 0] 44)).alloc (.cells #[.int .u64 0] 143)).alloc (.cells #[.slice A 0 0] 44)).heap.size=w.heap.size+5:=(by simp);have hDl:=HDl.out;generalize ((((w.alloc (.cells #[.int .i64 (k:Nat)] 3)).alloc (.cells (zrow 0) 146)).alloc (.cells #[.slice (some ⟨w.heap.size+1,0,none⟩) 0 0] 44)).alloc (.cells #[.int .u64 0] 143)).alloc (.cells #[.slice A 0 0] 44)=W0 at *;have hps:=pow_s hs32;have hpp:0 < 2 ^ s:=Nat.pow_pos (by omega)
   refine wpIn_rangeFunc_ownG rfl (by omega) (gf:=227) (lb:=#[.pointer (some ⟨w.heap.size+1+1+1+1,0,none⟩)]) rfl trivial (enters_of Tryz.func227 (by kernel_rfl) rfl)
    (down1_in Fence.wide 4 trivial rfl (by omega) (w.heap.size+1+1+1+1) 0 A D W0 HS.out.len (KpB W0.heap.size (w.heap.size+1) (w.heap.size+1+1+1)) (KpB W0.heap.size (w.heap.size+1) (w.heap.size+1+1+1) W0) (fun _ h=>KpB.of h) (fun _ _ h k=>h.trans k)
     (fun _ h=>⟨h.cell Qd.out (by simp; omega) (by simp <;> omega) (by simp <;> omega),h.sl HS.out (fun hl ad e=>by have:=HF.out hl ad e; omega)⟩)) (fun h k=>h.trans k) (fun W l _ o' hl _ _ _=>KpB.putObj W l o' hl) (Below.refl _ _) (fun _=>rfl)
    (fun pre W=>RtI (w.heap.size+1) (w.heap.size+1+1+1) D s pre W∧KpB W0.heap.size (w.heap.size+1) (w.heap.size+1+1+1) W0 W∧Below w.heap.size w W)
    (fun _ _ _=>False)
    (OwnFrom.and (ownFrom_rtI _ _ _ _ _ (by omega) (by omega)) (OwnFrom.and (ownFrom_kp (Nat.le_refl _)) (ownFrom_below (Nat.le_refl _) (by omega))))
    (fun _ _ _ _ _ hs _ _=>hs)
    ⟨⟨0,List.replicate D.length 0,hpp,by simp,q0g _,G1.out,G2.out,fun _=>by rw [List.length_nil,Nat.sub_zero,val_drop_end,List.drop_of_length_le (by simp)]; exact ⟨(Nat.zero_div _).symm,(Nat.zero_mod _).symm⟩⟩,KpB.refl _ _ _ _,HB0.out⟩
    (fun x=>{ tmps:=#[.slice A l.length l.length,.int .i64 k,undef,.pointer (some ⟨w.heap.size,0,none⟩),.slice none 0 0,.bool false,.int .i64 ((l.length:Nat):Int),.bool fst,.pointer (some ⟨w.heap.size+1+1,0,none⟩),.pointer (some ⟨w.heap.size+1+1+1,0,none⟩),.int .i64 (x.1:Int),.int .u32 (D[x.1]?.getD 0:Nat),.int .i64 k,.int .i64 ((l.length:Nat):Int),.slice A l.length l.length,.int .i64 l.length,.int .i64 ((l.length:Nat):Int),.slice A l.length l.length,.int .i64 ((l.length:Nat):Int),.slice A l.length l.length,.bool fst,.slice A l.length l.length,.int .i64 l.length,.int .i64 ((l.length:Nat):Int),.int .i64 0,.slice (some ⟨w.heap.size+1,0,none⟩) 0 0,.slice A l.length l.length,.int .i64 ((l.length:Nat):Int),.slice A 0 0,
     .func (.func 227) #[] #[.pointer (some ⟨w.heap.size+1+1+1+1,0,none⟩)],.int .i64 (x.1:Int),.int .u32 (D[x.1]?.getD 0:Nat),undef,undef,undef,undef,undef,undef,undef,undef,undef,undef,undef,undef,undef,undef,undef,undef,undef,undef,undef,undef,undef,undef,undef,undef,undef],defers:=[] }) ?assign ?body ?done ?stop
   case assign=>
    intro l' x W K hK;exact absurd x.2 (by omega)
   case body=>
    rintro l' pre x W _ _;exact absurd x.2 (by omega)
   case done=>
    rintro D' ys W hD' rfl ⟨⟨r,o,hr,hol,holim,hb1,hb2,hcond⟩,hK,hB⟩ hDf;have hc:=hcond ⟨[],by simp⟩;rw [downAll_len,Nat.sub_self,List.drop_zero,List.drop_zero] at hc;have q8:=hK.cell Q8.out (by simp; omega) (by simp <;> omega) (by simp <;> omega);have q9:=hb2.cell;have Hso:Hid (Sl W (some ⟨w.heap.size+1,0,none⟩) o 0):=⟨hb1.rd,holim,by omega,by omega⟩;have Hol:Hid (o.length=0):=hol.trans HDl.out;have Hvo:Hid (val o=val l / 2 ^ k):=hc.1.trans Hrv1.out.symm;have Hbo:Hid ((fst || decide (0 < r))=decide (0 < val l % 2 ^ k)):=(by unfold Hid; rw [hc.2]; exact Hrv2.out);have HB:=lh hB;clear hcond hc hb1 hb2 hol holim hK hB;cases fst
    ·gi_wp2
     refine wpIn_wide.2 ?_;go_quiet (fail)
     gi_wp2
     refine ⟨by simp,.inl ⟨_,_,rfl,run_takeDeferred (w:=W.drewN nq) hDf,?_⟩⟩;refine ⟨.tuple #[.slice (some ⟨w.heap.size+1,0,none⟩) 0 0,.bool (decide (0 < r))],?_,?_⟩
     ·simp [results,Tryz.f174,go_sem]
     ·have hbp:Below W0.heap.size (W.drewN nq) ((W.drewN nq).putObj D' (.deferred none)):=belowK_b (w:=W0) (Nat.le_refl _) (W.drewN nq) D' _ _ hD' hDf rfl rfl;exact ⟨some ⟨w.heap.size+1,0,none⟩,0,o,by rw [← Hbo.out,Hol.out,Bool.false_or],Sl.keepB (w:=W.drewN nq) ⟨Hso.out.rd,Hso.out.lim,Hso.out.le,Hso.out.len⟩ hbp (by omega),Hvo.out,by rw [Hol.out]; omega,(below_drewN HB.out nq).trans (hbp.mono (by omega))⟩
    ·gi_wp2
     refine wpIn_wide.2 ?_;go_quiet (fail)
     gi_wp2
     refine ⟨by simp,.inl ⟨_,_,rfl,run_takeDeferred (w:=W.drewN nq) hDf,?_⟩⟩;refine ⟨.tuple #[.slice (some ⟨w.heap.size+1,0,none⟩) 0 0,.bool true],?_,?_⟩
     ·simp [results,Tryz.f174,go_sem]
     ·have hbp:Below W0.heap.size (W.drewN nq) ((W.drewN nq).putObj D' (.deferred none)):=belowK_b (w:=W0) (Nat.le_refl _) (W.drewN nq) D' _ _ hD' hDf rfl rfl;exact ⟨some ⟨w.heap.size+1,0,none⟩,0,o,by rw [← Hbo.out,Hol.out,Bool.true_or],Sl.keepB (w:=W.drewN nq) ⟨Hso.out.rd,Hso.out.lim,Hso.out.le,Hso.out.len⟩ hbp (by omega),Hvo.out,by rw [Hol.out]; omega,(below_drewN HB.out nq).trans (hbp.mono (by omega))⟩
   case stop=>
    rintro D' c' pre W _ _ h _;exact h.elim
 ·obtain rfl:cut=l.length:=by omega
  clear hcut;by_cases hcq:l.length < c
  ·have hne:((l.length:Nat)=c)=False:=by simp; omega
   obtain ⟨D,hD⟩:∃ D,D=l.drop l.length:=⟨_,rfl⟩;have HDl:Hid (D.length=0):=(by unfold Hid; rw [hD,List.length_drop]; omega);have HSD:Hid (Sl w (Option.map (fun x=>x.add l.length) A) D (c - l.length)):=(by unfold Hid; rw [hD]; exact hs.dropA _ (Nat.le_refl _));rw [← hD] at hrv1 hrv2;have hmk:=fun W=>q0n (P:=Tryz.prog) 44 146 i0 Tryz.underlying44 hi hz0 hz1 hz2 ((0:Nat):Int) ((0:Nat):Int) 0 0 rfl rfl (Nat.le_refl _) (by omega) W;simp only [Int.ofNat_zero] at hmk;obtain ⟨fst,hfst⟩:∃ fst,decide (0 < val (l.take l.length))=fst:=⟨_,rfl⟩;rw [hfst] at hrv2;have Hfst:=lh hfst;have Hrv1:=lh hrv1;have Hrv2:=lh hrv2;clear hs hi hz0 hz1 hz2 hss hrv1 hrv2 hD hfst
   have Hc:Hid (∀ W,Below w.heap.size w W→Calls Tryz.prog 208 #[.slice A l.length c,.func (.func 209) #[] #[]] W fun e w'=>e=.returned (.bool fst)∧W=w'):=fun W hW=>by
    have hlt:(l.take l.length).length=l.length:=(by rw [List.length_take]; omega);have h:=q1h A (l.take l.length) c W ⟨(Hs.out.rd.below hW).take _,lim_take Hs.out.lim _,by omega,by omega⟩;rw [hlt,Hfst.out] at h;exact h
   refine callsIn_of_wp_marks Tryz.func174 rfl trivial ?_ rfl;simp only [Tryz.ntmps174,List.size_toArray,List.length_cons,List.length_nil,Nat.reduceAdd,Nat.reduceSub,Array.replicate_succ,Array.replicate_zero,List.push_toArray,List.append_toArray,List.nil_append,List.cons_append]
   gi_wp2_with (first
    | (refine ⟨trivial,?_⟩; gi_at_call 208; refine (callsIn_wide.2 (Hc.out _ (blw1 _ _))).mono ?_; rintro e w' ⟨rfl,rfl⟩)
    | (refine ⟨trivial,?_⟩; gi_at_call 191; refine (down_in _ _ trivial rfl _ _ _ _).mono ?_; rintro e w' ⟨rfl,rfl⟩))
   clear hmk;have Q3:Hid ((((((w.alloc (.cells #[.int .i64 (k:Nat)] 3)).alloc (.cells (zrow 0) 146)).alloc (.cells #[.slice (some ⟨w.heap.size+1,0,none⟩) 0 0] 44)).alloc (.cells #[.int .u64 0] 143)).alloc (.cells #[.slice (Option.map (fun x=>x.add l.length) A) 0 (c - l.length)] 44)).cell? ⟨w.heap.size,0,none⟩=some (.int .i64 k)):=(by unfold Hid; go_simp);have Q8:Hid ((((((w.alloc (.cells #[.int .i64 (k:Nat)] 3)).alloc (.cells (zrow 0) 146)).alloc (.cells #[.slice (some ⟨w.heap.size+1,0,none⟩) 0 0] 44)).alloc (.cells #[.int .u64 0] 143)).alloc (.cells #[.slice (Option.map (fun x=>x.add l.length) A) 0 (c - l.length)] 44)).cell? ⟨w.heap.size+1+1,0,none⟩=some (.slice (some ⟨w.heap.size+1,0,none⟩) 0 0)):=(by unfold Hid; go_simp);have Qd:Hid ((((((w.alloc (.cells #[.int .i64 (k:Nat)] 3)).alloc (.cells (zrow 0) 146)).alloc (.cells #[.slice (some ⟨w.heap.size+1,0,none⟩) 0 0] 44)).alloc (.cells #[.int .u64 0] 143)).alloc (.cells #[.slice (Option.map (fun x=>x.add l.length) A) 0 (c - l.length)] 44)).cell? ⟨w.heap.size+1+1+1+1,0,none⟩=some (.slice (Option.map (fun x=>x.add l.length) A) D.length (c - l.length))):=by unfold Hid; rw [HDl.out]; go_simp
   have G1:Hid (Blk (((((w.alloc (.cells #[.int .i64 (k:Nat)] 3)).alloc (.cells (zrow 0) 146)).alloc (.cells #[.slice (some ⟨w.heap.size+1,0,none⟩) 0 0] 44)).alloc (.cells #[.int .u64 0] 143)).alloc (.cells #[.slice (Option.map (fun x=>x.add l.length) A) 0 (c - l.length)] 44)) (w.heap.size+1) 146 (List.replicate D.length 0)):=by
    have h:=Blk.zrow (w.alloc (.cells #[.int .i64 (k:Nat)] 3)) 146 0;rw [World.size_alloc] at h;unfold Hid;rw [HDl.out];exact ((h.alloc _).alloc _).alloc _
   have G2:Hid (Boxed (((((w.alloc (.cells #[.int .i64 (k:Nat)] 3)).alloc (.cells (zrow 0) 146)).alloc (.cells #[.slice (some ⟨w.heap.size+1,0,none⟩) 0 0] 44)).alloc (.cells #[.int .u64 0] 143)).alloc (.cells #[.slice (Option.map (fun x=>x.add l.length) A) 0 (c - l.length)] 44)) (w.heap.size+1+1+1) 143 (.int .u64 (0:Nat))):=by
    have h:=Boxed.new (((w.alloc (.cells #[.int .i64 (k:Nat)] 3)).alloc (.cells (zrow 0) 146)).alloc (.cells #[.slice (some ⟨w.heap.size+1,0,none⟩) 0 0] 44)) 143 (.int .u64 (0:Nat));simp only [World.size_alloc] at h;exact h.alloc _
   have HS:Hid (Sl (((((w.alloc (.cells #[.int .i64 (k:Nat)] 3)).alloc (.cells (zrow 0) 146)).alloc (.cells #[.slice (some ⟨w.heap.size+1,0,none⟩) 0 0] 44)).alloc (.cells #[.int .u64 0] 143)).alloc (.cells #[.slice (Option.map (fun x=>x.add l.length) A) 0 (c - l.length)] 44)) (Option.map (fun x=>x.add l.length) A) D (c - l.length)):=((((HSD.out.alloc _).alloc _).alloc _).alloc _).alloc _
   have HF:Hid (0 < D.length→∀ ad,(Option.map (fun x=>x.add l.length) A)=some ad→ad.block < w.heap.size):=by
    intro hl ad e;obtain ⟨b,o,e2,hc⟩:=HSD.out.rd hl;rw [e2] at e;cases e
    exact lt_of_cell (hc 0 hl)
   have HB0:Hid (Below w.heap.size w (((((w.alloc (.cells #[.int .i64 (k:Nat)] 3)).alloc (.cells (zrow 0) 146)).alloc (.cells #[.slice (some ⟨w.heap.size+1,0,none⟩) 0 0] 44)).alloc (.cells #[.int .u64 0] 143)).alloc (.cells #[.slice (Option.map (fun x=>x.add l.length) A) 0 (c - l.length)] 44))):=(blw4 _ _ _ _ _).alloc (by simp <;> omega) _;have hsz:(((((w.alloc (.cells #[.int .i64 (k:Nat)] 3)).alloc (.cells (zrow 0) 146)).alloc (.cells #[.slice (some ⟨w.heap.size+1,0,none⟩) 0 0] 44)).alloc (.cells #[.int .u64 0] 143)).alloc (.cells #[.slice (Option.map (fun x=>x.add l.length) A) 0 (c - l.length)] 44)).heap.size=w.heap.size+5:=(by simp);have hDl:=HDl.out;generalize ((((w.alloc (.cells #[.int .i64 (k:Nat)] 3)).alloc (.cells (zrow 0) 146)).alloc (.cells #[.slice (some ⟨w.heap.size+1,0,none⟩) 0 0] 44)).alloc (.cells #[.int .u64 0] 143)).alloc (.cells #[.slice (Option.map (fun x=>x.add l.length) A) 0 (c - l.length)] 44)=W0 at *;have hps:=pow_s hs32;have hpp:0 < 2 ^ s:=Nat.pow_pos (by omega)
   refine wpIn_rangeFunc_ownG rfl (by omega) (gf:=227) (lb:=#[.pointer (some ⟨w.heap.size+1+1+1+1,0,none⟩)]) rfl trivial (enters_of Tryz.func227 (by kernel_rfl) rfl)
    (down1_in Fence.wide 4 trivial rfl (by omega) (w.heap.size+1+1+1+1) (c - l.length) (Option.map (fun x=>x.add l.length) A) D W0 HS.out.len (KpB W0.heap.size (w.heap.size+1) (w.heap.size+1+1+1)) (KpB W0.heap.size (w.heap.size+1) (w.heap.size+1+1+1) W0) (fun _ h=>KpB.of h) (fun _ _ h k=>h.trans k)
     (fun _ h=>⟨h.cell Qd.out (by simp; omega) (by simp <;> omega) (by simp <;> omega),h.sl HS.out (fun hl ad e=>by have:=HF.out hl ad e; omega)⟩)) (fun h k=>h.trans k) (fun W l _ o' hl _ _ _=>KpB.putObj W l o' hl) (Below.refl _ _) (fun _=>rfl)
    (fun pre W=>RtI (w.heap.size+1) (w.heap.size+1+1+1) D s pre W∧KpB W0.heap.size (w.heap.size+1) (w.heap.size+1+1+1) W0 W∧Below w.heap.size w W)
    (fun _ _ _=>False)
    (OwnFrom.and (ownFrom_rtI _ _ _ _ _ (by omega) (by omega)) (OwnFrom.and (ownFrom_kp (Nat.le_refl _)) (ownFrom_below (Nat.le_refl _) (by omega))))
    (fun _ _ _ _ _ hs _ _=>hs)
    ⟨⟨0,List.replicate D.length 0,hpp,by simp,q0g _,G1.out,G2.out,fun _=>by rw [List.length_nil,Nat.sub_zero,val_drop_end,List.drop_of_length_le (by simp)]; exact ⟨(Nat.zero_div _).symm,(Nat.zero_mod _).symm⟩⟩,KpB.refl _ _ _ _,HB0.out⟩
    (fun x=>{ tmps:=#[.slice A l.length c,.int .i64 k,undef,.pointer (some ⟨w.heap.size,0,none⟩),.slice none 0 0,.bool false,.int .i64 ((l.length:Nat):Int),.bool fst,.pointer (some ⟨w.heap.size+1+1,0,none⟩),.pointer (some ⟨w.heap.size+1+1+1,0,none⟩),.int .i64 (x.1:Int),.int .u32 (D[x.1]?.getD 0:Nat),.int .i64 k,.int .i64 ((kq:Nat):Int),.slice A l.length c,.int .i64 l.length,.int .i64 ((l.length:Nat):Int),.slice A l.length c,.int .i64 ((l.length:Nat):Int),.slice A l.length c,.bool fst,.slice A l.length c,.int .i64 l.length,.int .i64 ((l.length:Nat):Int),.int .i64 0,.slice (some ⟨w.heap.size+1,0,none⟩) 0 0,.slice A l.length c,.int .i64 ((l.length:Nat):Int),.slice (Option.map (fun x=>x.add l.length) A) 0 (c - l.length),
     .func (.func 227) #[] #[.pointer (some ⟨w.heap.size+1+1+1+1,0,none⟩)],.int .i64 (x.1:Int),.int .u32 (D[x.1]?.getD 0:Nat),undef,undef,undef,undef,undef,undef,undef,undef,undef,undef,undef,undef,undef,undef,undef,undef,undef,undef,undef,undef,undef,undef,undef,undef,undef],defers:=[] }) ?assign ?body ?done ?stop
   case assign=>
    intro l' x W K hK;exact absurd x.2 (by omega)
   case body=>
    rintro l' pre x W _ _;exact absurd x.2 (by omega)
   case done=>
    rintro D' ys W hD' rfl ⟨⟨r,o,hr,hol,holim,hb1,hb2,hcond⟩,hK,hB⟩ hDf;have hc:=hcond ⟨[],by simp⟩;rw [downAll_len,Nat.sub_self,List.drop_zero,List.drop_zero] at hc;have q8:=hK.cell Q8.out (by simp; omega) (by simp <;> omega) (by simp <;> omega);have q9:=hb2.cell;have Hso:Hid (Sl W (some ⟨w.heap.size+1,0,none⟩) o 0):=⟨hb1.rd,holim,by omega,by omega⟩;have Hol:Hid (o.length=0):=hol.trans HDl.out;have Hvo:Hid (val o=val l / 2 ^ k):=hc.1.trans Hrv1.out.symm;have Hbo:Hid ((fst || decide (0 < r))=decide (0 < val l % 2 ^ k)):=(by unfold Hid; rw [hc.2]; exact Hrv2.out);have HB:=lh hB;clear hcond hc hb1 hb2 hol holim hK hB;cases fst
    ·gi_wp2
     refine wpIn_wide.2 ?_;go_quiet (fail)
     gi_wp2
     refine ⟨by simp,.inl ⟨_,_,rfl,run_takeDeferred (w:=W.drewN nq) hDf,?_⟩⟩;refine ⟨.tuple #[.slice (some ⟨w.heap.size+1,0,none⟩) 0 0,.bool (decide (0 < r))],?_,?_⟩
     ·simp [results,Tryz.f174,go_sem]
     ·have hbp:Below W0.heap.size (W.drewN nq) ((W.drewN nq).putObj D' (.deferred none)):=belowK_b (w:=W0) (Nat.le_refl _) (W.drewN nq) D' _ _ hD' hDf rfl rfl;exact ⟨some ⟨w.heap.size+1,0,none⟩,0,o,by rw [← Hbo.out,Hol.out,Bool.false_or],Sl.keepB (w:=W.drewN nq) ⟨Hso.out.rd,Hso.out.lim,Hso.out.le,Hso.out.len⟩ hbp (by omega),Hvo.out,by rw [Hol.out]; omega,(below_drewN HB.out nq).trans (hbp.mono (by omega))⟩
    ·gi_wp2
     refine wpIn_wide.2 ?_;go_quiet (fail)
     gi_wp2
     refine ⟨by simp,.inl ⟨_,_,rfl,run_takeDeferred (w:=W.drewN nq) hDf,?_⟩⟩;refine ⟨.tuple #[.slice (some ⟨w.heap.size+1,0,none⟩) 0 0,.bool true],?_,?_⟩
     ·simp [results,Tryz.f174,go_sem]
     ·have hbp:Below W0.heap.size (W.drewN nq) ((W.drewN nq).putObj D' (.deferred none)):=belowK_b (w:=W0) (Nat.le_refl _) (W.drewN nq) D' _ _ hD' hDf rfl rfl;exact ⟨some ⟨w.heap.size+1,0,none⟩,0,o,by rw [← Hbo.out,Hol.out,Bool.true_or],Sl.keepB (w:=W.drewN nq) ⟨Hso.out.rd,Hso.out.lim,Hso.out.le,Hso.out.len⟩ hbp (by omega),Hvo.out,by rw [Hol.out]; omega,(below_drewN HB.out nq).trans (hbp.mono (by omega))⟩
   case stop=>
    rintro D' c' pre W _ _ h _;exact h.elim
  ·obtain rfl:c=l.length:=by omega
   obtain ⟨D,hD⟩:∃ D,D=l.drop l.length:=⟨_,rfl⟩;have HDl:Hid (D.length=0):=(by unfold Hid; rw [hD,List.length_drop]; omega);have HSD:Hid (Sl w A D 0):=(by unfold Hid; have h0:D=[]:=(by rw [hD]; simp); rw [h0]; exact Sl.nil _ _ _);rw [← hD] at hrv1 hrv2;have hmk:=fun W=>q0n (P:=Tryz.prog) 44 146 i0 Tryz.underlying44 hi hz0 hz1 hz2 ((0:Nat):Int) ((0:Nat):Int) 0 0 rfl rfl (Nat.le_refl _) (by omega) W;simp only [Int.ofNat_zero] at hmk;obtain ⟨fst,hfst⟩:∃ fst,decide (0 < val (l.take l.length))=fst:=⟨_,rfl⟩;rw [hfst] at hrv2;have Hfst:=lh hfst;have Hrv1:=lh hrv1;have Hrv2:=lh hrv2;clear hs hi hz0 hz1 hz2 hss hrv1 hrv2 hD hfst
   have Hc:Hid (∀ W,Below w.heap.size w W→Calls Tryz.prog 208 #[.slice A l.length l.length,.func (.func 209) #[] #[]] W fun e w'=>e=.returned (.bool fst)∧W=w'):=fun W hW=>by
    have hlt:(l.take l.length).length=l.length:=(by rw [List.length_take]; omega);have h:=q1h A (l.take l.length) l.length W ⟨(Hs.out.rd.below hW).take _,lim_take Hs.out.lim _,by omega,by omega⟩;rw [hlt,Hfst.out] at h;exact h
   refine callsIn_of_wp_marks Tryz.func174 rfl trivial ?_ rfl;simp only [Tryz.ntmps174,List.size_toArray,List.length_cons,List.length_nil,Nat.reduceAdd,Nat.reduceSub,Array.replicate_succ,Array.replicate_zero,List.push_toArray,List.append_toArray,List.nil_append,List.cons_append]
   gi_wp2_with (first
    | (refine ⟨trivial,?_⟩; gi_at_call 208; refine (callsIn_wide.2 (Hc.out _ (blw1 _ _))).mono ?_; rintro e w' ⟨rfl,rfl⟩)
    | (refine ⟨trivial,?_⟩; gi_at_call 191; refine (down_in _ _ trivial rfl _ _ _ _).mono ?_; rintro e w' ⟨rfl,rfl⟩))
   clear hmk;have Q3:Hid ((((((w.alloc (.cells #[.int .i64 (k:Nat)] 3)).alloc (.cells (zrow 0) 146)).alloc (.cells #[.slice (some ⟨w.heap.size+1,0,none⟩) 0 0] 44)).alloc (.cells #[.int .u64 0] 143)).alloc (.cells #[.slice A 0 0] 44)).cell? ⟨w.heap.size,0,none⟩=some (.int .i64 k)):=(by unfold Hid; go_simp);have Q8:Hid ((((((w.alloc (.cells #[.int .i64 (k:Nat)] 3)).alloc (.cells (zrow 0) 146)).alloc (.cells #[.slice (some ⟨w.heap.size+1,0,none⟩) 0 0] 44)).alloc (.cells #[.int .u64 0] 143)).alloc (.cells #[.slice A 0 0] 44)).cell? ⟨w.heap.size+1+1,0,none⟩=some (.slice (some ⟨w.heap.size+1,0,none⟩) 0 0)):=(by unfold Hid; go_simp);have Qd:Hid ((((((w.alloc (.cells #[.int .i64 (k:Nat)] 3)).alloc (.cells (zrow 0) 146)).alloc (.cells #[.slice (some ⟨w.heap.size+1,0,none⟩) 0 0] 44)).alloc (.cells #[.int .u64 0] 143)).alloc (.cells #[.slice A 0 0] 44)).cell? ⟨w.heap.size+1+1+1+1,0,none⟩=some (.slice A D.length 0)):=by unfold Hid; rw [HDl.out]; go_simp
   have G1:Hid (Blk (((((w.alloc (.cells #[.int .i64 (k:Nat)] 3)).alloc (.cells (zrow 0) 146)).alloc (.cells #[.slice (some ⟨w.heap.size+1,0,none⟩) 0 0] 44)).alloc (.cells #[.int .u64 0] 143)).alloc (.cells #[.slice A 0 0] 44)) (w.heap.size+1) 146 (List.replicate D.length 0)):=by
    have h:=Blk.zrow (w.alloc (.cells #[.int .i64 (k:Nat)] 3)) 146 0;rw [World.size_alloc] at h;unfold Hid;rw [HDl.out];exact ((h.alloc _).alloc _).alloc _
   have G2:Hid (Boxed (((((w.alloc (.cells #[.int .i64 (k:Nat)] 3)).alloc (.cells (zrow 0) 146)).alloc (.cells #[.slice (some ⟨w.heap.size+1,0,none⟩) 0 0] 44)).alloc (.cells #[.int .u64 0] 143)).alloc (.cells #[.slice A 0 0] 44)) (w.heap.size+1+1+1) 143 (.int .u64 (0:Nat))):=by
    have h:=Boxed.new (((w.alloc (.cells #[.int .i64 (k:Nat)] 3)).alloc (.cells (zrow 0) 146)).alloc (.cells #[.slice (some ⟨w.heap.size+1,0,none⟩) 0 0] 44)) 143 (.int .u64 (0:Nat));simp only [World.size_alloc] at h;exact h.alloc _
   have HS:Hid (Sl (((((w.alloc (.cells #[.int .i64 (k:Nat)] 3)).alloc (.cells (zrow 0) 146)).alloc (.cells #[.slice (some ⟨w.heap.size+1,0,none⟩) 0 0] 44)).alloc (.cells #[.int .u64 0] 143)).alloc (.cells #[.slice A 0 0] 44)) A D 0):=((((HSD.out.alloc _).alloc _).alloc _).alloc _).alloc _
   have HF:Hid (0 < D.length→∀ ad,A=some ad→ad.block < w.heap.size):=by
    intro hl ad e;obtain ⟨b,o,e2,hc⟩:=HSD.out.rd hl;rw [e2] at e;cases e
    exact lt_of_cell (hc 0 hl)
   have HB0:Hid (Below w.heap.size w (((((w.alloc (.cells #[.int .i64 (k:Nat)] 3)).alloc (.cells (zrow 0) 146)).alloc (.cells #[.slice (some ⟨w.heap.size+1,0,none⟩) 0 0] 44)).alloc (.cells #[.int .u64 0] 143)).alloc (.cells #[.slice A 0 0] 44))):=(blw4 _ _ _ _ _).alloc (by simp <;> omega) _;have hsz:(((((w.alloc (.cells #[.int .i64 (k:Nat)] 3)).alloc (.cells (zrow 0) 146)).alloc (.cells #[.slice (some ⟨w.heap.size+1,0,none⟩) 0 0] 44)).alloc (.cells #[.int .u64 0] 143)).alloc (.cells #[.slice A 0 0] 44)).heap.size=w.heap.size+5:=(by simp);have hDl:=HDl.out;generalize ((((w.alloc (.cells #[.int .i64 (k:Nat)] 3)).alloc (.cells (zrow 0) 146)).alloc (.cells #[.slice (some ⟨w.heap.size+1,0,none⟩) 0 0] 44)).alloc (.cells #[.int .u64 0] 143)).alloc (.cells #[.slice A 0 0] 44)=W0 at *;have hps:=pow_s hs32;have hpp:0 < 2 ^ s:=Nat.pow_pos (by omega)
   refine wpIn_rangeFunc_ownG rfl (by omega) (gf:=227) (lb:=#[.pointer (some ⟨w.heap.size+1+1+1+1,0,none⟩)]) rfl trivial (enters_of Tryz.func227 (by kernel_rfl) rfl)
    (down1_in Fence.wide 4 trivial rfl (by omega) (w.heap.size+1+1+1+1) 0 A D W0 HS.out.len (KpB W0.heap.size (w.heap.size+1) (w.heap.size+1+1+1)) (KpB W0.heap.size (w.heap.size+1) (w.heap.size+1+1+1) W0) (fun _ h=>KpB.of h) (fun _ _ h k=>h.trans k)
     (fun _ h=>⟨h.cell Qd.out (by simp; omega) (by simp <;> omega) (by simp <;> omega),h.sl HS.out (fun hl ad e=>by have:=HF.out hl ad e; omega)⟩)) (fun h k=>h.trans k) (fun W l _ o' hl _ _ _=>KpB.putObj W l o' hl) (Below.refl _ _) (fun _=>rfl)
    (fun pre W=>RtI (w.heap.size+1) (w.heap.size+1+1+1) D s pre W∧KpB W0.heap.size (w.heap.size+1) (w.heap.size+1+1+1) W0 W∧Below w.heap.size w W)
    (fun _ _ _=>False)
    (OwnFrom.and (ownFrom_rtI _ _ _ _ _ (by omega) (by omega)) (OwnFrom.and (ownFrom_kp (Nat.le_refl _)) (ownFrom_below (Nat.le_refl _) (by omega))))
    (fun _ _ _ _ _ hs _ _=>hs)
    ⟨⟨0,List.replicate D.length 0,hpp,by simp,q0g _,G1.out,G2.out,fun _=>by rw [List.length_nil,Nat.sub_zero,val_drop_end,List.drop_of_length_le (by simp)]; exact ⟨(Nat.zero_div _).symm,(Nat.zero_mod _).symm⟩⟩,KpB.refl _ _ _ _,HB0.out⟩
    (fun x=>{ tmps:=#[.slice A l.length l.length,.int .i64 k,undef,.pointer (some ⟨w.heap.size,0,none⟩),.slice none 0 0,.bool false,.int .i64 ((l.length:Nat):Int),.bool fst,.pointer (some ⟨w.heap.size+1+1,0,none⟩),.pointer (some ⟨w.heap.size+1+1+1,0,none⟩),.int .i64 (x.1:Int),.int .u32 (D[x.1]?.getD 0:Nat),.int .i64 k,.int .i64 ((kq:Nat):Int),.slice A l.length l.length,.int .i64 l.length,.int .i64 ((l.length:Nat):Int),.slice A l.length l.length,.int .i64 ((l.length:Nat):Int),.slice A l.length l.length,.bool fst,.slice A l.length l.length,.int .i64 l.length,.int .i64 ((l.length:Nat):Int),.int .i64 0,.slice (some ⟨w.heap.size+1,0,none⟩) 0 0,.slice A l.length l.length,.int .i64 ((l.length:Nat):Int),.slice A 0 0,
     .func (.func 227) #[] #[.pointer (some ⟨w.heap.size+1+1+1+1,0,none⟩)],.int .i64 (x.1:Int),.int .u32 (D[x.1]?.getD 0:Nat),undef,undef,undef,undef,undef,undef,undef,undef,undef,undef,undef,undef,undef,undef,undef,undef,undef,undef,undef,undef,undef,undef,undef,undef,undef],defers:=[] }) ?assign ?body ?done ?stop
   case assign=>
    intro l' x W K hK;exact absurd x.2 (by omega)
   case body=>
    rintro l' pre x W _ _;exact absurd x.2 (by omega)
   case done=>
    rintro D' ys W hD' rfl ⟨⟨r,o,hr,hol,holim,hb1,hb2,hcond⟩,hK,hB⟩ hDf;have hc:=hcond ⟨[],by simp⟩;rw [downAll_len,Nat.sub_self,List.drop_zero,List.drop_zero] at hc;have q8:=hK.cell Q8.out (by simp; omega) (by simp <;> omega) (by simp <;> omega);have q9:=hb2.cell;have Hso:Hid (Sl W (some ⟨w.heap.size+1,0,none⟩) o 0):=⟨hb1.rd,holim,by omega,by omega⟩;have Hol:Hid (o.length=0):=hol.trans HDl.out;have Hvo:Hid (val o=val l / 2 ^ k):=hc.1.trans Hrv1.out.symm;have Hbo:Hid ((fst || decide (0 < r))=decide (0 < val l % 2 ^ k)):=(by unfold Hid; rw [hc.2]; exact Hrv2.out);have HB:=lh hB;clear hcond hc hb1 hb2 hol holim hK hB;cases fst
    ·gi_wp2
     refine wpIn_wide.2 ?_;go_quiet (fail)
     gi_wp2
     refine ⟨by simp,.inl ⟨_,_,rfl,run_takeDeferred (w:=W.drewN nq) hDf,?_⟩⟩;refine ⟨.tuple #[.slice (some ⟨w.heap.size+1,0,none⟩) 0 0,.bool (decide (0 < r))],?_,?_⟩
     ·simp [results,Tryz.f174,go_sem]
     ·have hbp:Below W0.heap.size (W.drewN nq) ((W.drewN nq).putObj D' (.deferred none)):=belowK_b (w:=W0) (Nat.le_refl _) (W.drewN nq) D' _ _ hD' hDf rfl rfl;exact ⟨some ⟨w.heap.size+1,0,none⟩,0,o,by rw [← Hbo.out,Hol.out,Bool.false_or],Sl.keepB (w:=W.drewN nq) ⟨Hso.out.rd,Hso.out.lim,Hso.out.le,Hso.out.len⟩ hbp (by omega),Hvo.out,by rw [Hol.out]; omega,(below_drewN HB.out nq).trans (hbp.mono (by omega))⟩
    ·gi_wp2
     refine wpIn_wide.2 ?_;go_quiet (fail)
     gi_wp2
     refine ⟨by simp,.inl ⟨_,_,rfl,run_takeDeferred (w:=W.drewN nq) hDf,?_⟩⟩;refine ⟨.tuple #[.slice (some ⟨w.heap.size+1,0,none⟩) 0 0,.bool true],?_,?_⟩
     ·simp [results,Tryz.f174,go_sem]
     ·have hbp:Below W0.heap.size (W.drewN nq) ((W.drewN nq).putObj D' (.deferred none)):=belowK_b (w:=W0) (Nat.le_refl _) (W.drewN nq) D' _ _ hD' hDf rfl rfl;exact ⟨some ⟨w.heap.size+1,0,none⟩,0,o,by rw [← Hbo.out,Hol.out,Bool.true_or],Sl.keepB (w:=W.drewN nq) ⟨Hso.out.rd,Hso.out.lim,Hso.out.le,Hso.out.len⟩ hbp (by omega),Hvo.out,by rw [Hol.out]; omega,(below_drewN HB.out nq).trans (hbp.mono (by omega))⟩
   case stop=>
    rintro D' c' pre W _ _ h _;exact h.elim
end Go.Proofs.YtgnjhlnolihgcaaGreat
import Derived.Test.YtcpofeehpijbcaaGreatDoorCd2
import Derived.Lib.AppendIntMem
import Derived.Lib.ItoaLen
import Derived.Deep.RegionHeld
set_option maxHeartbeats 4000000
set_option maxRecDepth 100000
namespace Go.Proofs.YtcpofeehpijbcaaGreatDoor
open List renaming getElem_toArray → z0q, getElem_cons_zero → z1q, getElem_cons_succ → z2q, setIfInBounds_toArray → z3q, set_cons_zero → z4q, set_cons_succ → z5q
open Lib renaming hid → lh
open Go.RowKit Go.Lib Go.Shelf
attribute [local go_sem ↓] Go.wp_at_zero Go.wp_at_succ
theorem join2 (b:Nat) (t:TypeId) (x y:List UInt8) (w:World) (hc:BlkV w b t #[.string ⟨x.toArray⟩,.string ⟨y.toArray⟩]) (hl:x.length+y.length≤100000000000000) :
  Calls Tryz.prog 122 #[.slice (some ⟨b,0,none⟩) 2 2] w fun e w'=>e=.returned (.string ⟨(x ++ y).toArray⟩)∧Below w.heap.size w w':=by
 have h:=join_any b t [x,y] w hc (by show 2≤100; omega) (by simp; omega);have e:[x,y].flatten=x ++ y:=(by simp);rw [e] at h;exact h
theorem join3 (b:Nat) (t:TypeId) (x y z:List UInt8) (w:World) (hc:BlkV w b t #[.string ⟨x.toArray⟩,.string ⟨y.toArray⟩,.string ⟨z.toArray⟩]) (hl:x.length+y.length+z.length≤100000000000000) :
  Calls Tryz.prog 122 #[.slice (some ⟨b,0,none⟩) 3 3] w fun e w'=>e=.returned (.string ⟨(x ++ (y ++ z)).toArray⟩)∧Below w.heap.size w w':=by
 have h:=join_any b t [x,y,z] w hc (by show 3≤100; omega) (by simp; omega);have e:[x,y,z].flatten=x ++ (y ++ z):=(by simp);rw [e] at h;exact h
structure Env (w:World):Prop where
 ml:∃ m:Int,w.cell? ⟨4,0,none⟩=some (.int .i64 m)
 tb:Lib.TabIs Tryz.prog w "internal/strconv.uint64pow10" .u64 Lib.pow10Tab
theorem Env.keep {w w':World} (h:Env w) (hb:Below w.heap.size w w'):Env w':=by
 obtain ⟨m,hm⟩:=h.ml;exact ⟨⟨m,q0b hb hm⟩,tabBelow_of_tabIs h.tb w' hb⟩
structure OkC (c:CD):Prop where
 kd:c.kd≤255
 n1 : -9223372036854775808≤c.n
 n2:c.n≤9223372036854775807
 e1 : -9223372036854775808≤c.e
 e2:c.e≤9223372036854775807
 k:c.k.length≤281474976710656
 t:c.t.length≤281474976710656
 o:c.o.length≤281474976710656
theorem below_grow (w:World) (k:Nat) (os:Array Obj):Below w.heap.size w (Sort.grow (w.drewN k) os):=
 ⟨rfl,rfl,rfl,by simp [Sort.grow],fun i hi=>by simp [Sort.grow,Array.getElem?_append_left,hi]⟩
theorem fmtInt_any (n:Int) (h0 : -9223372036854775808≤n) (h1:n≤9223372036854775807) (w:World) (hE:Env w) :
  Calls Tryz.prog 175 #[.int .i64 n,.int .i64 10] w fun e w'=>e=.returned (.string ⟨(itoa n).toArray⟩)∧Below w.heap.size w w':=by
 refine (Tryz.strconv_FormatInt_10 n h0 h1 w hE.tb).mono ?_;rintro e w' ⟨rfl,k,os,rfl⟩;exact ⟨rfl,below_grow _ _ _⟩
theorem itoa_any (n:Int) (h0 : -9223372036854775808≤n) (h1:n≤9223372036854775807) (w:World) (hE:Env w) :
  Calls Tryz.prog 176 #[.int .i64 n] w fun e w'=>e=.returned (.string ⟨(itoa n).toArray⟩)∧Below w.heap.size w w':=by
 refine (Tryz.strconv_Itoa n h0 h1 w hE.tb).mono ?_;rintro e w' ⟨rfl,k,os,rfl⟩;exact ⟨rfl,below_grow _ _ _⟩
theorem rep_any (j n:Nat) (hn:n≤10000) (hj:j≤9000000000000) (w:World) :
  Calls Tryz.prog 140 #[.string ⟨#[32]⟩,.int .i64 (max 0 ((n:Int) - (j:Int)))] w fun e w'=>e=.returned (.string ⟨(List.replicate (n - j) 32).toArray⟩)∧Below w.heap.size w w':=by
 have h:=Tryz.strings_Repeat ⟨#[32]⟩ (n - j) w (by omega) (by show 1 * _≤_; omega);rw [show max 0 ((n:Int) - (j:Int))=((n - j:Nat):Int) by omega,← repl_one];exact h
theorem fieldS_len (c:CD) (hc:OkC c) (ht:c.kd=5→c.t.length≤10000):(fieldS c).length≤100000:=by
 unfold fieldS;split
 ·rename_i h
  have h1:=esc_len c.t;have h2:=ht h;rw [padR_len];have h3:=padR_len (esc c.t) 8;simp;omega
 ·rw [padL_len];have h1:=itoa_length_le c.n hc.n1 hc.n2;have h2:=itoa_length_le c.e hc.e1 hc.e2;unfold rawF;split
  ·split <;> simp
  ·split
   ·omega
   ·split
    ·simp; omega
    ·simp
theorem field_any (c:CD) (hc:OkC c) (ht:c.kd=5→c.t.length≤10000) (w:World) (hE:Env w) :
  Calls Tryz.prog 134 #[.agg #[.string ⟨c.k.toArray⟩,.int .u8 c.kd,.bool c.y,.int .i64 c.n,.int .i64 c.e,.string ⟨c.t.toArray⟩,.string ⟨c.o.toArray⟩]] w fun e w'=>e=.returned (.string ⟨(fieldS c).toArray⟩)∧Below w.heap.size w w':=by
 have hK:=hc.kd;have h1:=hc.n1;have h2:=hc.n2;have h3:=hc.e1;have h4:=hc.e2;have EN:=lh hE;have B0:Hid (Below w.heap.size w (w.alloc (.cells #[.string ⟨c.k.toArray⟩,.int .u8 c.kd,.bool c.y,.int .i64 c.n,.int .i64 c.e,.string ⟨c.t.toArray⟩,.string ⟨c.o.toArray⟩] 31))):=blw1 _ _;have K0:Hid (BlkV (w.alloc (.cells #[.string ⟨c.k.toArray⟩,.int .u8 c.kd,.bool c.y,.int .i64 c.n,.int .i64 c.e,.string ⟨c.t.toArray⟩,.string ⟨c.o.toArray⟩] 31)) w.heap.size 31 #[.string ⟨c.k.toArray⟩,.int .u8 c.kd,.bool c.y,.int .i64 c.n,.int .i64 c.e,.string ⟨c.t.toArray⟩,.string ⟨c.o.toArray⟩]):=BlkV.fresh rfl _ _;clear hc hE;by_cases k5:c.kd=5
 ·have htl:=ht k5;clear ht;have d5:((c.kd:Int) == 5)=true:=(by simp; omega);have F5:Hid (fieldS c=padR (39 :: (padR (esc c.t) 8 ++ [39])) 20):=(by unfold Hid fieldS; rw [if_pos k5]);obtain ⟨m,hm⟩:=EN.out.ml;have HM:=lh hm;clear hm;have hel:=esc_len c.t;have HES:=lh (fun W (h:Below w.heap.size w W)=>escape_any c.t (by omega) m W (q0b h HM.out));generalize esc c.t=s1 at *;clear k5;go_enter Tryz.func134,Tryz.ntmps134
  go_wp2_with fail
  generalize hw0:w.alloc (.cells #[.string ⟨c.k.toArray⟩,.int .u8 c.kd,.bool c.y,.int .i64 c.n,.int .i64 c.e,.string ⟨c.t.toArray⟩,.string ⟨c.o.toArray⟩] 31)=w0 at *;clear hw0;refine (HES.out _ B0.out).mono ?_;rintro e w1 ⟨rfl,hb⟩;replace B0:=lh (q0a B0.out hb);clear hb;clear HES;go_wp2_with fail
  refine (pad_any s1 8 (by omega) (by omega) _).mono ?_;rintro e w1 ⟨rfl,hb⟩;replace B0:=lh (q0a B0.out hb);clear hb;have hpl:=padR_len s1 8;generalize padR s1 8=s2 at *;go_wp2_with fail
  refine (join3 _ _ [39] s2 [39] _ (BlkV.fresh rfl _ _) (by simp; omega)).mono ?_;rintro e w1 ⟨rfl,hb⟩;replace B0:=lh (q0a (q0a B0.out (blw1 _ _)) hb);clear hb;have F6:Hid (fieldS c=padR ([39] ++ (s2 ++ [39])) 20):=F5.out;have hql:([39] ++ (s2 ++ [39])).length≤30000:=(by simp; omega);clear F5;generalize [39] ++ (s2 ++ [39])=q at *;go_wp2_with fail
  refine (pad_any q 20 (by omega) (by omega) _).mono ?_;rintro e w1 ⟨rfl,hb⟩;replace B0:=lh (q0a B0.out hb);clear hb;generalize padR q 20=q2 at *;go_wp2
  go_ret
  exact ⟨by rw [F6.out]; rfl,B0.out⟩
 ·have d5:((c.kd:Int) == 5)=false:=(by simp; omega);clear ht;have F0:Hid (fieldS c=List.replicate (20 - (rawF c).length) 32 ++ rawF c):=(by unfold Hid fieldS; rw [if_neg k5]; rfl);by_cases k2:c.kd=2
  ·have d2:((c.kd:Int) == 2)=true:=(by simp; omega);have d5':(2:Nat)≠5:=by decide
   cases hy:c.y with
   | true=>
    have E:rawF c=[84]:=(by unfold rawF; rw [if_pos k2,hy]; rfl);rw [E] at F0;have REP:=lh (fun W=>rep_any 1 20 (by omega) (by omega) W);have HY:=lh hy;clear E k5 k2 d5';rw [hy] at B0 K0;go_enter Tryz.func134,Tryz.ntmps134
    go_wp2_with fail
    generalize hw0:w.alloc (.cells #[.string ⟨c.k.toArray⟩,.int .u8 c.kd,.bool true,.int .i64 c.n,.int .i64 c.e,.string ⟨c.t.toArray⟩,.string ⟨c.o.toArray⟩] 31)=w0 at *;clear hw0;refine (REP.out _).mono ?_;rintro e w1 ⟨rfl,hb⟩;replace B0:=lh (q0a B0.out hb);clear hb;go_wp2
    go_ret
    exact ⟨by rw [F0.out,← q0d]; rfl,B0.out⟩
   | false=>
    have E:rawF c=[70]:=(by unfold rawF; rw [if_pos k2,hy]; rfl);rw [E] at F0;have REP:=lh (fun W=>rep_any 1 20 (by omega) (by omega) W);have HY:=lh hy;clear E k5 k2 d5';rw [hy] at B0 K0;go_enter Tryz.func134,Tryz.ntmps134
    go_wp2_with fail
    generalize hw0:w.alloc (.cells #[.string ⟨c.k.toArray⟩,.int .u8 c.kd,.bool false,.int .i64 c.n,.int .i64 c.e,.string ⟨c.t.toArray⟩,.string ⟨c.o.toArray⟩] 31)=w0 at *;clear hw0;refine (REP.out _).mono ?_;rintro e w1 ⟨rfl,hb⟩;replace B0:=lh (q0a B0.out hb);clear hb;go_wp2
    go_ret
    exact ⟨by rw [F0.out,← q0d]; rfl,B0.out⟩
  ·by_cases k3:c.kd=3
   ·have d3:((c.kd:Int) == 3)=true:=(by simp; omega);have d2:((c.kd:Int) == 2)=false:=(by simp; omega);have E:rawF c=itoa c.n:=(by unfold rawF; rw [if_neg k2,if_pos k3]);rw [E] at F0;have hil:=itoa_length_le c.n h1 h2;have HI:=lh (fun W (h:Below w.heap.size w W)=>fmtInt_any c.n h1 h2 W (EN.out.keep h));clear E k5 k2 k3;generalize itoa c.n=r at *;go_enter Tryz.func134,Tryz.ntmps134
    go_wp2_with fail
    generalize hw0:w.alloc (.cells #[.string ⟨c.k.toArray⟩,.int .u8 c.kd,.bool c.y,.int .i64 c.n,.int .i64 c.e,.string ⟨c.t.toArray⟩,.string ⟨c.o.toArray⟩] 31)=w0 at *;clear hw0;refine (HI.out _ B0.out).mono ?_;rintro e w1 ⟨rfl,hb⟩;replace B0:=lh (q0a B0.out hb);clear hb;have REP:=lh (fun W=>rep_any r.length 20 (by omega) (by omega) W);go_wp2_with fail
    refine (REP.out _).mono ?_;rintro e w1 ⟨rfl,hb⟩;replace B0:=lh (q0a B0.out hb);clear hb;have hrl:(List.replicate (20 - r.length) (32:UInt8)).length≤20:=(by rw [List.length_replicate]; omega);generalize List.replicate (20 - r.length) (32:UInt8)=q at *;go_wp2
    go_ret
    exact ⟨by rw [F0.out,← q0d]; rfl,B0.out⟩
   ·by_cases k4:c.kd=4
    ·have d4:((c.kd:Int) == 4)=true:=(by simp; omega);have d2:((c.kd:Int) == 2)=false:=(by simp; omega);have d3:((c.kd:Int) == 3)=false:=(by simp; omega);have E:rawF c=itoa c.n ++ ([46,69] ++ itoa c.e):=(by unfold rawF; rw [if_neg k2,if_neg k3,if_pos k4]; rfl);rw [E] at F0;have hil:=itoa_length_le c.n h1 h2;have hjl:=itoa_length_le c.e h3 h4;have HI:=lh (fun W (h:Below w.heap.size w W)=>fmtInt_any c.n h1 h2 W (EN.out.keep h));have HJ:=lh (fun W (h:Below w.heap.size w W)=>itoa_any c.e h3 h4 W (EN.out.keep h));clear E k5 k2 k3 k4;generalize itoa c.n=r at *;generalize itoa c.e=r2 at *;go_enter Tryz.func134,Tryz.ntmps134
     go_upto_region 12 with fail
     generalize hw0:w.alloc (.cells #[.string ⟨c.k.toArray⟩,.int .u8 c.kd,.bool c.y,.int .i64 c.n,.int .i64 c.e,.string ⟨c.t.toArray⟩,.string ⟨c.o.toArray⟩] 31)=w0 at *;clear hw0;have JS:Hid (∀ X,Below w0.heap.size w0 X→X.cell? ⟨w.heap.size,3,none⟩=some (.int .i64 c.n)∧X.cell? ⟨w.heap.size,4,none⟩=some (.int .i64 c.e)):=fun X h=>⟨q0b h (K0.out.at_ 3 rfl),q0b h (K0.out.at_ 4 rfl)⟩;have Y0:Hid (Below w0.heap.size w0 w0.drew):=(Below.refl _ _).drew;refine wp_region_held_drew (S:=fun w'=>w'.cell? ⟨w.heap.size,3,none⟩=some (.int .i64 c.n)∧w'.cell? ⟨w.heap.size,4,none⟩=some (.int .i64 c.e)) (by kernel_rfl) (JS.out _ Y0.out) (fun hHeld=>?_);generalize w0.drew=wd at *;refine wpAnyH_take (i:=0) (v:=.pointer (some ⟨w.heap.size,3,none⟩)) rfl (by kernel_rfl) (by kernel_rfl) (by kernel_rfl) (fun _ _ _ h=>h) (Or.inl ⟨by rfl,by intro w hSw; (try dsimp only at hSw); go_simp⟩) (by assumption) ?_;(try simp only [Act.put,z0q,z1q,z3q,z4q,z5q]);refine wpAnyH_take (i:=1) (v:=.int .i64 c.n) rfl (by kernel_rfl) (by kernel_rfl) (by kernel_rfl) (fun _ _ _ h=>h) (Or.inl ⟨by rfl,by intro w hSw; (try dsimp only at hSw); go_simp⟩) (by assumption) ?_;(try simp only [Act.put,z0q,z1q,z2q,z3q,z4q,z5q]);refine wpAnyH_take (i:=3) (v:=.pointer (some ⟨w.heap.size,4,none⟩)) rfl (by kernel_rfl) (by kernel_rfl) (by kernel_rfl) (fun _ _ _ h=>h) (Or.inl ⟨by rfl,by intro w hSw; (try dsimp only at hSw); go_simp⟩) (by assumption) ?_;(try simp only [Act.put,z0q,z1q,z2q,z3q,z4q,z5q]);refine wpAnyH_take (i:=4) (v:=.int .i64 c.e) rfl (by kernel_rfl) (by kernel_rfl) (by kernel_rfl) (fun _ _ _ h=>h) (Or.inl ⟨by rfl,by intro w hSw; (try dsimp only at hSw); go_simp⟩) (by assumption) ?_;(try simp only [Act.put,z0q,z1q,z2q,z3q,z4q,z5q]);refine wpAnyH_ready (rs:=[2]) (by kernel_rfl) (by simp) ?_;refine AllReadyH.cons rfl (fun K hK=>?_) AllReadyH.nil;go_simp
     (with_reducible refine (HI.out wd (q0a B0.out Y0.out)).mono ?_);rintro e v1 ⟨rfl,hb⟩;(try dsimp only);have Y1:=lh (q0a Y0.out hb);clear hb;(try go_wp2_with fail);refine hK.out _ _ (JS.out _ Y1.out) (fun hHeld2=>?_);clear hK K hHeld;have hHeld:=hHeld2;clear hHeld2;(try simp only [Act.put,z0q,z1q,z2q,z3q,z4q,z5q]);refine wpAnyH_ready (rs:=[5]) (by kernel_rfl) (by simp) ?_;refine AllReadyH.cons rfl (fun K hK=>?_) AllReadyH.nil;go_simp
     (with_reducible refine (HJ.out v1 (q0a B0.out Y1.out)).mono ?_);rintro e v2 ⟨rfl,hb⟩;(try dsimp only);have Y2:=lh (q0a Y1.out hb);clear hb;(try go_wp2_with fail);refine hK.out _ _ (JS.out _ Y2.out) (fun hHeld2=>?_);clear hK K hHeld;have hHeld:=hHeld2;clear hHeld2;(try simp only [Act.put,z0q,z1q,z2q,z3q,z4q,z5q]);refine wpAnyH_ready (rs:=[6]) (by kernel_rfl) (by simp) ?_;refine AllReadyH.cons rfl (fun K hK=>?_) AllReadyH.nil;go_simp
     refine hK.out _ _ (JS.out _ (q0a Y2.out (blw1 _ _))) (fun hHeld2=>?_);clear hK K hHeld;have hHeld:=hHeld2;clear hHeld2;(try simp only [Act.put,z0q,z1q,z2q,z3q,z4q,z5q]);have KJ:Hid (BlkV (v2.alloc (.cells #[.string ⟨r.toArray⟩,.string ⟨#[46,69]⟩,.string ⟨r2.toArray⟩] 9)) v2.heap.size 9 #[.string ⟨r.toArray⟩,.string ⟨#[46,69]⟩,.string ⟨r2.toArray⟩]):=BlkV.fresh rfl _ _;generalize hv3:v2.alloc (.cells #[.string ⟨r.toArray⟩,.string ⟨#[46,69]⟩,.string ⟨r2.toArray⟩] 9)=v3 at *;have Y3:Hid (Below w0.heap.size w0 v3):=(by rw [← hv3]; exact q0a Y2.out (blw1 _ _));clear hv3;refine wpAnyH_ready (rs:=[7]) (by kernel_rfl) (by simp) ?_;refine AllReadyH.cons rfl (fun K hK=>?_) AllReadyH.nil;go_simp
     (with_reducible refine (join3 _ _ r [46,69] r2 v3 KJ.out (by simp; omega)).mono ?_);rintro e v4 ⟨rfl,hb⟩;(try dsimp only);have Y4:=lh (q0a Y3.out hb);clear hb;(try go_wp2_with fail);refine hK.out _ _ (JS.out _ Y4.out) (fun hHeld2=>?_);clear hK K hHeld;have hHeld:=hHeld2;clear hHeld2;(try simp only [Act.put,z0q,z1q,z2q,z3q,z4q,z5q]);refine wpAnyH_take (i:=8) (v:=.string ⟨(r ++ ([46,69] ++ r2)).toArray⟩) rfl (by kernel_rfl) (by kernel_rfl) (by kernel_rfl) (fun _ _ _ h=>h) (Or.inl ⟨by rfl,by intro w hSw; (try dsimp only at hSw); go_simp⟩) (by assumption) ?_;(try simp only [Act.put,z0q,z1q,z2q,z3q,z4q,z5q]);refine wpAnyH_done (by kernel_rfl) ?_ _;clear hHeld;have B4:=lh (q0a B0.out Y4.out);have hql:(r ++ ([46,69] ++ r2)).length≤50:=(by simp; omega);generalize r ++ ([46,69] ++ r2)=q at *;have REP:=lh (fun W=>rep_any q.length 20 (by omega) (by omega) W);go_wp2_with fail
     refine (REP.out _).mono ?_;rintro e w1 ⟨rfl,hb⟩;replace B4:=lh (q0a B4.out hb);clear hb;have hrl:(List.replicate (20 - q.length) (32:UInt8)).length≤20:=(by rw [List.length_replicate]; omega);generalize List.replicate (20 - q.length) (32:UInt8)=q2 at *;go_wp2
     go_ret
     exact ⟨by rw [F0.out,← q0d]; rfl,B4.out⟩
    ·have d2:((c.kd:Int) == 2)=false:=(by simp; omega);have d3:((c.kd:Int) == 3)=false:=(by simp; omega);have d4:((c.kd:Int) == 4)=false:=(by simp; omega);have E:rawF c=[]:=(by unfold rawF; rw [if_neg k2,if_neg k3,if_neg k4]);rw [E] at F0;have REP:=lh (fun W=>rep_any 0 20 (by omega) (by omega) W);clear E k5 k2 k3 k4;go_enter Tryz.func134,Tryz.ntmps134
     go_wp2_with fail
     generalize hw0:w.alloc (.cells #[.string ⟨c.k.toArray⟩,.int .u8 c.kd,.bool c.y,.int .i64 c.n,.int .i64 c.e,.string ⟨c.t.toArray⟩,.string ⟨c.o.toArray⟩] 31)=w0 at *;clear hw0;refine (REP.out _).mono ?_;rintro e w1 ⟨rfl,hb⟩;replace B0:=lh (q0a B0.out hb);clear hb;go_wp2
     go_ret
     exact ⟨by rw [F0.out,← q0d]; rfl,B0.out⟩
theorem behind_any (c:CD) (hc:OkC c) (ht:c.kd=5→c.t.length≤10000) (ho:c.o.length≤10000000000000) (w:World) (hE:Env w) :
  Calls Tryz.prog 92 #[.agg #[.string ⟨c.k.toArray⟩,.int .u8 c.kd,.bool c.y,.int .i64 c.n,.int .i64 c.e,.string ⟨c.t.toArray⟩,.string ⟨c.o.toArray⟩]] w fun e w'=>e=.returned (.string ⟨(q0s c).toArray⟩)∧Below w.heap.size w w':=by
 have B0:Hid (Below w.heap.size w (w.alloc (.cells #[.string ⟨c.k.toArray⟩,.int .u8 c.kd,.bool c.y,.int .i64 c.n,.int .i64 c.e,.string ⟨c.t.toArray⟩,.string ⟨c.o.toArray⟩] 31))):=blw1 _ _;have K0:Hid (BlkV (w.alloc (.cells #[.string ⟨c.k.toArray⟩,.int .u8 c.kd,.bool c.y,.int .i64 c.n,.int .i64 c.e,.string ⟨c.t.toArray⟩,.string ⟨c.o.toArray⟩] 31)) w.heap.size 31 #[.string ⟨c.k.toArray⟩,.int .u8 c.kd,.bool c.y,.int .i64 c.n,.int .i64 c.e,.string ⟨c.t.toArray⟩,.string ⟨c.o.toArray⟩]):=BlkV.fresh rfl _ _;have HF:=lh (fun W (h:Below w.heap.size w W)=>field_any c hc ht W (hE.keep h));have hfl:(fieldS c).length≤100000:=fieldS_len c hc ht;clear hc hE ht;by_cases he:c.o=[]
 ·have E:Hid (q0s c=fieldS c):=(by unfold Hid q0s; rw [if_pos he]);rw [E.out];clear E hfl ho;generalize fieldS c=f at *;obtain ⟨k,kd,y,n,e,t,o⟩:=c;dsimp only at *;subst he;go_enter Tryz.func92,Tryz.ntmps92
  go_wp2_with fail
  generalize hw0:w.alloc (.cells #[.string ⟨k.toArray⟩,.int .u8 kd,.bool y,.int .i64 n,.int .i64 e,.string ⟨t.toArray⟩,.string ⟨#[]⟩] 31)=w0 at *;clear hw0;refine (HF.out w0 B0.out).mono ?_;rintro e w1 ⟨rfl,hb⟩;replace B0:=lh (q0a B0.out hb);clear hb;go_wp2
  go_ret
  exact ⟨rfl,B0.out⟩
 ·have E:Hid (q0s c=fieldS c ++ ([32,47,32] ++ c.o)):=(by unfold Hid q0s; rw [if_neg he]; rfl);rw [E.out];clear E;generalize fieldS c=f at *;have HJ:=lh (fun b V (h:BlkV V b 9 #[.string ⟨f.toArray⟩,.string ⟨#[32,47,32]⟩,.string ⟨c.o.toArray⟩])=>join3 b _ f [32,47,32] c.o V h (by simp; omega));generalize f ++ ([32,47,32] ++ c.o)=q at *;obtain ⟨k,kd,y,n,e,t,o⟩:=c;dsimp only at *;have he2:o.isEmpty=false:=(by cases o; exact absurd rfl he; rfl);have he3:(o == [])=false:=(by cases o; exact absurd rfl he; rfl);go_enter Tryz.func92,Tryz.ntmps92
  go_upto_region 3 with fail
  generalize hw0:w.alloc (.cells #[.string ⟨k.toArray⟩,.int .u8 kd,.bool y,.int .i64 n,.int .i64 e,.string ⟨t.toArray⟩,.string ⟨o.toArray⟩] 31)=w0 at *;clear hw0;have JS:Hid (∀ X,Below w0.heap.size w0 X→X.cell? ⟨w.heap.size,0,none⟩=some (.string ⟨k.toArray⟩)∧X.cell? ⟨w.heap.size,1,none⟩=some (.int .u8 kd)∧X.cell? ⟨w.heap.size,2,none⟩=some (.bool y)∧X.cell? ⟨w.heap.size,3,none⟩=some (.int .i64 n)∧X.cell? ⟨w.heap.size,4,none⟩=some (.int .i64 e)∧X.cell? ⟨w.heap.size,5,none⟩=some (.string ⟨t.toArray⟩)∧X.cell? ⟨w.heap.size,6,none⟩=some (.string ⟨o.toArray⟩)):=fun X h=>⟨q0b h (K0.out.at_ 0 rfl),q0b h (K0.out.at_ 1 rfl),q0b h (K0.out.at_ 2 rfl),q0b h (K0.out.at_ 3 rfl),q0b h (K0.out.at_ 4 rfl),q0b h (K0.out.at_ 5 rfl),q0b h (K0.out.at_ 6 rfl)⟩;have Y0:Hid (Below w0.heap.size w0 w0.drew):=(Below.refl _ _).drew;refine wp_region_held_drew (S:=fun w'=>w'.cell? ⟨w.heap.size,0,none⟩=some (.string ⟨k.toArray⟩)∧w'.cell? ⟨w.heap.size,1,none⟩=some (.int .u8 kd)∧w'.cell? ⟨w.heap.size,2,none⟩=some (.bool y)∧w'.cell? ⟨w.heap.size,3,none⟩=some (.int .i64 n)∧w'.cell? ⟨w.heap.size,4,none⟩=some (.int .i64 e)∧w'.cell? ⟨w.heap.size,5,none⟩=some (.string ⟨t.toArray⟩)∧w'.cell? ⟨w.heap.size,6,none⟩=some (.string ⟨o.toArray⟩)) (by kernel_rfl) (JS.out _ Y0.out) (fun hHeld=>?_);generalize w0.drew=wd at *;refine wpAnyH_take (i:=0) (v:=.agg #[.string ⟨k.toArray⟩,.int .u8 kd,.bool y,.int .i64 n,.int .i64 e,.string ⟨t.toArray⟩,.string ⟨o.toArray⟩]) rfl (by kernel_rfl) (by kernel_rfl) (by kernel_rfl) (fun _ _ _ h=>h) (Or.inl ⟨by rfl,by intro w hSw; (try dsimp only at hSw); go_simp⟩) (by assumption) ?_;(try simp only [Act.put,z0q,z1q,z3q,z4q,z5q]);refine wpAnyH_take (i:=2) (v:=.pointer (some ⟨w.heap.size,6,none⟩)) rfl (by kernel_rfl) (by kernel_rfl) (by kernel_rfl) (fun _ _ _ h=>h) (Or.inl ⟨by rfl,by intro w hSw; (try dsimp only at hSw); go_simp⟩) (by assumption) ?_;(try simp only [Act.put,z0q,z1q,z2q,z3q,z4q,z5q]);refine wpAnyH_take (i:=3) (v:=.string ⟨o.toArray⟩) rfl (by kernel_rfl) (by kernel_rfl) (by kernel_rfl) (fun _ _ _ h=>h) (Or.inl ⟨by rfl,by intro w hSw; (try dsimp only at hSw); go_simp⟩) (by assumption) ?_;(try simp only [Act.put,z0q,z1q,z2q,z3q,z4q,z5q]);refine wpAnyH_ready (rs:=[1]) (by kernel_rfl) (by simp) ?_;refine AllReadyH.cons rfl (fun K hK=>?_) AllReadyH.nil;go_simp
  (with_reducible refine (HF.out wd (q0a B0.out Y0.out)).mono ?_);rintro e v1 ⟨rfl,hb⟩;(try dsimp only);have Y1:=lh (q0a Y0.out hb);clear hb;(try go_wp2_with fail);refine hK.out _ _ (JS.out _ Y1.out) (fun hHeld2=>?_);clear hK K hHeld;have hHeld:=hHeld2;clear hHeld2;(try simp only [Act.put,z0q,z1q,z2q,z3q,z4q,z5q]);refine wpAnyH_ready (rs:=[4]) (by kernel_rfl) (by simp) ?_;refine AllReadyH.cons rfl (fun K hK=>?_) AllReadyH.nil;go_simp
  refine hK.out _ _ (JS.out _ (q0a Y1.out (blw1 _ _))) (fun hHeld2=>?_);clear hK K hHeld;have hHeld:=hHeld2;clear hHeld2;(try simp only [Act.put,z0q,z1q,z2q,z3q,z4q,z5q]);have KJ:Hid (BlkV (v1.alloc (.cells #[.string ⟨f.toArray⟩,.string ⟨#[32,47,32]⟩,.string ⟨o.toArray⟩] 9)) v1.heap.size 9 #[.string ⟨f.toArray⟩,.string ⟨#[32,47,32]⟩,.string ⟨o.toArray⟩]):=BlkV.fresh rfl _ _;generalize hv3:v1.alloc (.cells #[.string ⟨f.toArray⟩,.string ⟨#[32,47,32]⟩,.string ⟨o.toArray⟩] 9)=v3 at *;have Y3:Hid (Below w0.heap.size w0 v3):=(by rw [← hv3]; exact q0a Y1.out (blw1 _ _));clear hv3;refine wpAnyH_ready (rs:=[5]) (by kernel_rfl) (by simp) ?_;refine AllReadyH.cons rfl (fun K hK=>?_) AllReadyH.nil;go_simp
  (with_reducible refine (HJ.out _ v3 KJ.out).mono ?_);rintro e v4 ⟨rfl,hb⟩;(try dsimp only);have Y4:=lh (q0a Y3.out hb);clear hb;(try go_wp2_with fail);refine hK.out _ _ (JS.out _ Y4.out) (fun hHeld2=>?_);clear hK K hHeld;have hHeld:=hHeld2;clear hHeld2;(try simp only [Act.put,z0q,z1q,z2q,z3q,z4q,z5q]);refine wpAnyH_take (i:=6) (v:=.string ⟨q.toArray⟩) rfl (by kernel_rfl) (by kernel_rfl) (by kernel_rfl) (fun _ _ _ h=>h) (Or.inl ⟨by rfl,by intro w hSw; (try dsimp only at hSw); go_simp⟩) (by assumption) ?_;(try simp only [Act.put,z0q,z1q,z2q,z3q,z4q,z5q]);refine wpAnyH_done (by kernel_rfl) ?_ _;clear hHeld;go_wp2
  go_ret
  exact ⟨rfl,q0a B0.out Y4.out⟩
theorem spare_any (c:CD) (hK:c.kd≤255) (w:World) :
  Calls Tryz.prog 86 #[.agg #[.string ⟨c.k.toArray⟩,.int .u8 c.kd,.bool c.y,.int .i64 c.n,.int .i64 c.e,.string ⟨c.t.toArray⟩,.string ⟨c.o.toArray⟩]] w fun e w'=>e=.returned (.bool (spareB c))∧Below w.heap.size w w':=by
 have B0:Hid (Below w.heap.size w (w.alloc (.cells #[.string ⟨c.k.toArray⟩,.int .u8 c.kd,.bool c.y,.int .i64 c.n,.int .i64 c.e,.string ⟨c.t.toArray⟩,.string ⟨c.o.toArray⟩] 31))):=blw1 _ _;obtain ⟨k,kd,y,n,e,t,o⟩:=c;dsimp only at *;rcases Decidable.em (kd=1) with h1 | h1
 ·have a1:((kd:Int) == 1)=true:=(by simp; omega);have b1:((kd:Int) != 1)=false:=(by simp; omega);have a2:((kd:Int) == 2)=false:=(by simp; omega);have a3:((kd:Int) == 3)=false:=(by simp; omega);have a4:((kd:Int) == 4)=false:=(by simp; omega);have a5:((kd:Int) == 5)=false:=(by simp; omega);have b2:((kd:Int) != 2)=true:=(by simp; omega);have b3:((kd:Int) != 3)=true:=(by simp; omega);have b4:((kd:Int) != 4)=true:=(by simp; omega);have b5:((kd:Int) != 5)=true:=by simp; omega
  have HV:Hid (spareB ⟨k,kd,y,n,e,t,o⟩=(y || n != 0 || e != 0 || !(o == []))):=by
   unfold Hid spareB;dsimp only;rw [h1]; simp
  rw [HV.out];clear HV h1;skip;go_enter Tryz.func86,Tryz.ntmps86
  go_wp2
  all_goals
   go_ret
   exact ⟨by simp_all,blw1 _ _⟩
 ·rcases Decidable.em (kd=2) with h2 | h2
  ·have a2:((kd:Int) == 2)=true:=(by simp; omega);have b2:((kd:Int) != 2)=false:=(by simp; omega);have a1:((kd:Int) == 1)=false:=(by simp; omega);have a3:((kd:Int) == 3)=false:=(by simp; omega);have a4:((kd:Int) == 4)=false:=(by simp; omega);have a5:((kd:Int) == 5)=false:=(by simp; omega);have b1:((kd:Int) != 1)=true:=(by simp; omega);have b3:((kd:Int) != 3)=true:=(by simp; omega);have b4:((kd:Int) != 4)=true:=(by simp; omega);have b5:((kd:Int) != 5)=true:=by simp; omega
   have HV:Hid (spareB ⟨k,kd,y,n,e,t,o⟩=(n != 0 || e != 0 || !(t == []))):=by
    unfold Hid spareB;dsimp only;rw [h2]; simp
   rw [HV.out];clear HV h1 h2;skip;go_enter Tryz.func86,Tryz.ntmps86
   go_wp2
   all_goals
    go_ret
    exact ⟨by simp_all,blw1 _ _⟩
  ·rcases Decidable.em (kd=3) with h3 | h3
   ·have a3:((kd:Int) == 3)=true:=(by simp; omega);have b3:((kd:Int) != 3)=false:=(by simp; omega);have a1:((kd:Int) == 1)=false:=(by simp; omega);have a2:((kd:Int) == 2)=false:=(by simp; omega);have a4:((kd:Int) == 4)=false:=(by simp; omega);have a5:((kd:Int) == 5)=false:=(by simp; omega);have b1:((kd:Int) != 1)=true:=(by simp; omega);have b2:((kd:Int) != 2)=true:=(by simp; omega);have b4:((kd:Int) != 4)=true:=(by simp; omega);have b5:((kd:Int) != 5)=true:=by simp; omega
    have HV:Hid (spareB ⟨k,kd,y,n,e,t,o⟩=(y || e != 0 || !(t == []))):=by
     unfold Hid spareB;dsimp only;rw [h3]; simp
    rw [HV.out];clear HV h1 h2 h3;skip;go_enter Tryz.func86,Tryz.ntmps86
    go_wp2
    all_goals
     go_ret
     exact ⟨by simp_all,blw1 _ _⟩
   ·rcases Decidable.em (kd=4) with h4 | h4
    ·have a4:((kd:Int) == 4)=true:=(by simp; omega);have b4:((kd:Int) != 4)=false:=(by simp; omega);have a1:((kd:Int) == 1)=false:=(by simp; omega);have a2:((kd:Int) == 2)=false:=(by simp; omega);have a3:((kd:Int) == 3)=false:=(by simp; omega);have a5:((kd:Int) == 5)=false:=(by simp; omega);have b1:((kd:Int) != 1)=true:=(by simp; omega);have b2:((kd:Int) != 2)=true:=(by simp; omega);have b3:((kd:Int) != 3)=true:=(by simp; omega);have b5:((kd:Int) != 5)=true:=by simp; omega
     have HV:Hid (spareB ⟨k,kd,y,n,e,t,o⟩=(y || !(t == []))):=by
      unfold Hid spareB;dsimp only;rw [h4]; simp
     rw [HV.out];clear HV h1 h2 h3 h4;skip;go_enter Tryz.func86,Tryz.ntmps86
     go_wp2
     all_goals
      go_ret
      exact ⟨by simp_all,blw1 _ _⟩
    ·rcases Decidable.em (kd=5) with h5 | h5
     ·have a5:((kd:Int) == 5)=true:=(by simp; omega);have b5:((kd:Int) != 5)=false:=(by simp; omega);have a1:((kd:Int) == 1)=false:=(by simp; omega);have a2:((kd:Int) == 2)=false:=(by simp; omega);have a3:((kd:Int) == 3)=false:=(by simp; omega);have a4:((kd:Int) == 4)=false:=(by simp; omega);have b1:((kd:Int) != 1)=true:=(by simp; omega);have b2:((kd:Int) != 2)=true:=(by simp; omega);have b3:((kd:Int) != 3)=true:=(by simp; omega);have b4:((kd:Int) != 4)=true:=by simp; omega
      have HV:Hid (spareB ⟨k,kd,y,n,e,t,o⟩=(y || n != 0 || e != 0)):=by
       unfold Hid spareB;dsimp only;rw [h5]; simp
      rw [HV.out];clear HV h1 h2 h3 h4 h5;skip;go_enter Tryz.func86,Tryz.ntmps86
      go_wp2
      all_goals
       go_ret
       exact ⟨by simp_all,blw1 _ _⟩
     ·have a1:((kd:Int) == 1)=false:=(by simp; omega);have a2:((kd:Int) == 2)=false:=(by simp; omega);have a3:((kd:Int) == 3)=false:=(by simp; omega);have a4:((kd:Int) == 4)=false:=(by simp; omega);have a5:((kd:Int) == 5)=false:=(by simp; omega);have b1:((kd:Int) != 1)=true:=(by simp; omega);have b2:((kd:Int) != 2)=true:=(by simp; omega);have b3:((kd:Int) != 3)=true:=(by simp; omega);have b4:((kd:Int) != 4)=true:=(by simp; omega);have b5:((kd:Int) != 5)=true:=by simp; omega
      have HV:Hid (spareB ⟨k,kd,y,n,e,t,o⟩=(y || n != 0 || e != 0 || !(t == []))):=by
       unfold Hid spareB;dsimp only;rw [show (kd != 2)=true from bne_iff_ne.2 h2,show (kd != 3)=true from bne_iff_ne.2 h3,show (kd != 4)=true from bne_iff_ne.2 h4,show (kd != 5)=true from bne_iff_ne.2 h5,show (kd != 1)=true from bne_iff_ne.2 h1,show (kd == 1)=false from beq_eq_false_iff_ne.2 h1]; simp
      rw [HV.out];clear HV h1 h2 h3 h4 h5;skip;go_enter Tryz.func86,Tryz.ntmps86
      go_wp2
      all_goals
       go_ret
       exact ⟨by simp_all,blw1 _ _⟩
end Go.Proofs.YtcpofeehpijbcaaGreatDoor
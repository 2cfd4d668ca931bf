import Derived.Test.YtcpofeehpijbcaaGreatDoorRf2
set_option maxHeartbeats 8000000
set_option maxRecDepth 100000
namespace Go.Proofs.YtcpofeehpijbcaaGreatDoor
open List renaming getElem_toArray → z0q, getElem_cons_zero → z1q, getElem_cons_succ → z2q, setIfInBounds_toArray → z3q, set_cons_zero → z4q, set_cons_succ → z5q
open Go.RowKit Go.Lib Go.Shelf
attribute [local go_sem ↓] Go.wp_at_zero Go.wp_at_succ
theorem fieldS_lenK (c:CD) (hc:OkC c) (ht:c.kd=5→c.t.length≤1000):(q0m c).length≤3000:=by
 unfold q0m;split
 ·rename_i h
  have h1:=esc_len c.t;have h2:=ht h;rw [padR_len];have h3:=padR_len (esc c.t) 8;simp;omega
 ·rw [padL_len];have h1:=itoa_length_le c.n hc.n1 hc.n2;have h2:=itoa_length_le c.e hc.e1 hc.e2;unfold rawF;split
  ·split <;> simp
  ·split
   ·simp; omega
   ·split
    ·simp; omega
    ·simp
theorem rkvalue_any (c:CD) (hc:OkC c) (ht:c.kd=5→c.t.length≤1000) (ho:c.o.length≤140737488351232) (w:World) :
  Calls Tryz.prog 59 #[.agg #[.string ⟨c.k.toArray⟩,.int .u8 c.kd,.bool c.y,.int .i64 c.n,.int .i64 c.e,.string ⟨c.t.toArray⟩,.string ⟨c.o.toArray⟩]] w fun e w'=>e=.returned (.string ⟨(behindS c).toArray⟩)∧Below w.heap.size w w':=by
 have FL:=Lib.hid (fun W=>rfield_any c hc (fun h=>Nat.le_trans (ht h) (by decide)) W);have HB:Hid (behindS c=if c.o=[] then q0m c else q0m c ++ (32 :: 47 :: 32 :: c.o)):=rfl;have hln:=fieldS_lenK c hc ht;have AP:=Lib.hid q0e;have B0:Hid (Below w.heap.size w (w.alloc (.cells #[.string ⟨c.k.toArray⟩,.int .u8 c.kd,.bool c.y,.int .i64 c.n,.int .i64 c.e,.string ⟨c.t.toArray⟩,.string ⟨c.o.toArray⟩] 31))):=blw1 _ _;have K0:Hid (BlkV (w.alloc (.cells #[.string ⟨c.k.toArray⟩,.int .u8 c.kd,.bool c.y,.int .i64 c.n,.int .i64 c.e,.string ⟨c.t.toArray⟩,.string ⟨c.o.toArray⟩] 31)) w.heap.size 31 #[.string ⟨c.k.toArray⟩,.int .u8 c.kd,.bool c.y,.int .i64 c.n,.int .i64 c.e,.string ⟨c.t.toArray⟩,.string ⟨c.o.toArray⟩]):=BlkV.fresh rfl _ _;clear hc ht;generalize behindS c=R at *;generalize q0m c=F at *;obtain ⟨k,kd,y,n,e,tx,no⟩:=c;dsimp only at *;by_cases h0:no=[]
 ·have hR:Hid (R=F):=(by unfold Hid; rw [HB.out,if_pos h0]);have o2:no.isEmpty=true:=(by rw [h0]; rfl);clear h0 HB;go_enter Tryz.func59,Tryz.ntmps59
  go_upto_region 1 with fail
  generalize w.alloc (.cells #[.string ⟨k.toArray⟩,.int .u8 kd,.bool y,.int .i64 n,.int .i64 e,.string ⟨tx.toArray⟩,.string ⟨no.toArray⟩] 31)=w0 at *;have c0:=K0.out.at_ 0 rfl;have c1:=K0.out.at_ 1 rfl;have c2:=K0.out.at_ 2 rfl;have c3:=K0.out.at_ 3 rfl;have c4:=K0.out.at_ 4 rfl;have c5:=K0.out.at_ 5 rfl;have c6:=K0.out.at_ 6 rfl;go_wp2_with fail
  refine (FL.out _).mono ?_;rintro x w1 ⟨rfl,hb⟩;replace B0:=Lib.hid (q0a B0.out hb);clear hb;go_wp2
  go_ret
  exact ⟨by rw [hR.out]; rfl,B0.out⟩
 ·have hR:Hid (R=F ++ (32 :: 47 :: 32 :: no)):=(by unfold Hid; rw [HB.out,if_neg h0]);have o2:no.isEmpty=false:=(by cases no; exact absurd rfl h0; rfl);clear h0 HB;have ap1:Hid (ByteArray.mk F.toArray ++ ByteArray.mk #[32,47,32]=ByteArray.mk (F ++ [32,47,32]).toArray):=AP.out F [32,47,32]
  have ap2:Hid (ByteArray.mk (F ++ [32,47,32]).toArray ++ ByteArray.mk no.toArray=ByteArray.mk R.toArray):=by
   have h:=AP.out (F ++ [32,47,32]) no;rw [List.append_assoc] at h;unfold Hid;rw [hR.out];exact h
  have hl2:(F ++ [32,47,32]).length=F.length+3:=(by simp);generalize F ++ [32,47,32]=F2 at *;go_enter Tryz.func59,Tryz.ntmps59
  go_upto_region 1 with fail
  generalize w.alloc (.cells #[.string ⟨k.toArray⟩,.int .u8 kd,.bool y,.int .i64 n,.int .i64 e,.string ⟨tx.toArray⟩,.string ⟨no.toArray⟩] 31)=w0 at *;have c0:=K0.out.at_ 0 rfl;have c1:=K0.out.at_ 1 rfl;have c2:=K0.out.at_ 2 rfl;have c3:=K0.out.at_ 3 rfl;have c4:=K0.out.at_ 4 rfl;have c5:=K0.out.at_ 5 rfl;have c6:=K0.out.at_ 6 rfl;go_upto_region 3 with fail
  have JS:Hid (∀ X,Below w0.heap.size w0 X→X.cell? ⟨w.heap.size,0,none⟩=some (.string ⟨k.toArray⟩)∧X.cell? ⟨w.heap.size,1,none⟩=some (.int .u8 kd)∧X.cell? ⟨w.heap.size,2,none⟩=some (.bool y)∧X.cell? ⟨w.heap.size,3,none⟩=some (.int .i64 n)∧X.cell? ⟨w.heap.size,4,none⟩=some (.int .i64 e)∧X.cell? ⟨w.heap.size,5,none⟩=some (.string ⟨tx.toArray⟩)∧X.cell? ⟨w.heap.size,6,none⟩=some (.string ⟨no.toArray⟩)):=fun X h=>⟨q0b h (K0.out.at_ 0 rfl),q0b h (K0.out.at_ 1 rfl),q0b h (K0.out.at_ 2 rfl),q0b h (K0.out.at_ 3 rfl),q0b h (K0.out.at_ 4 rfl),q0b h (K0.out.at_ 5 rfl),q0b h (K0.out.at_ 6 rfl)⟩;have Y0:Hid (Below w0.heap.size w0 w0.drew):=(Below.refl _ _).drew;clear c0 c1 c2 c3 c4 c5 c6;refine wp_region_held_drew (S:=fun w'=>w'.cell? ⟨w.heap.size,0,none⟩=some (.string ⟨k.toArray⟩)∧w'.cell? ⟨w.heap.size,1,none⟩=some (.int .u8 kd)∧w'.cell? ⟨w.heap.size,2,none⟩=some (.bool y)∧w'.cell? ⟨w.heap.size,3,none⟩=some (.int .i64 n)∧w'.cell? ⟨w.heap.size,4,none⟩=some (.int .i64 e)∧w'.cell? ⟨w.heap.size,5,none⟩=some (.string ⟨tx.toArray⟩)∧w'.cell? ⟨w.heap.size,6,none⟩=some (.string ⟨no.toArray⟩)) (by kernel_rfl) (JS.out _ Y0.out) (fun hHeld=>?_);generalize w0.drew=wd at *;refine wpAnyH_take (i:=0) (v:=.agg #[.string ⟨k.toArray⟩,.int .u8 kd,.bool y,.int .i64 n,.int .i64 e,.string ⟨tx.toArray⟩,.string ⟨no.toArray⟩]) rfl (by kernel_rfl) (by kernel_rfl) (by kernel_rfl) (fun _ _ _ h=>h) (Or.inl ⟨by rfl,by intro w hSw; (try dsimp only at hSw); go_simp⟩) (by assumption) ?_;(try simp only [Act.put,z0q,z1q,z3q,z4q,z5q]);refine wpAnyH_take (i:=3) (v:=.pointer (some ⟨w.heap.size,6,none⟩)) rfl (by kernel_rfl) (by kernel_rfl) (by kernel_rfl) (fun _ _ _ h=>h) (Or.inl ⟨by rfl,by intro w hSw; (try dsimp only at hSw); go_simp⟩) (by assumption) ?_;(try simp only [Act.put,z0q,z1q,z2q,z3q,z4q,z5q]);refine wpAnyH_take (i:=4) (v:=.string ⟨no.toArray⟩) rfl (by kernel_rfl) (by kernel_rfl) (by kernel_rfl) (fun _ _ _ h=>h) (Or.inl ⟨by rfl,by intro w hSw; (try dsimp only at hSw); go_simp⟩) (by assumption) ?_;(try simp only [Act.put,z0q,z1q,z2q,z3q,z4q,z5q]);refine wpAnyH_ready (rs:=[1]) (by kernel_rfl) (by simp) ?_;refine AllReadyH.cons rfl (fun K hK=>?_) AllReadyH.nil;go_simp
  (with_reducible refine (FL.out wd).mono ?_);rintro x v1 ⟨rfl,hb⟩;(try dsimp only);have Y1:=Lib.hid (q0a Y0.out hb);clear hb;(try go_wp2_with fail);refine hK.out _ _ (JS.out _ Y1.out) (fun hHeld2=>?_);clear hK K hHeld;have hHeld:=hHeld2;clear hHeld2;(try simp only [Act.put,z0q,z1q,z2q,z3q,z4q,z5q]);refine wpAnyH_take (i:=2) (v:=.string ⟨F2.toArray⟩) rfl (by kernel_rfl) (by kernel_rfl) (by kernel_rfl) (fun _ _ _ h=>h) (Or.inl ⟨by rfl,by intro w hSw; (try dsimp only at hSw); go_simp; rw [if_neg (by omega),ap1.out]⟩) (by assumption) ?_;(try simp only [Act.put,z0q,z1q,z2q,z3q,z4q,z5q]);refine wpAnyH_take (i:=5) (v:=.string ⟨R.toArray⟩) rfl (by kernel_rfl) (by kernel_rfl) (by kernel_rfl) (fun _ _ _ h=>h) (Or.inl ⟨by rfl,by intro w hSw; (try dsimp only at hSw); go_simp; rw [if_neg (by omega),ap2.out]⟩) (by assumption) ?_;(try simp only [Act.put,z0q,z1q,z2q,z3q,z4q,z5q]);refine wpAnyH_take (i:=6) (v:=.string ⟨R.toArray⟩) rfl (by kernel_rfl) (by kernel_rfl) (by kernel_rfl) (fun _ _ _ h=>h) (Or.inl ⟨by rfl,by intro w hSw; (try dsimp only at hSw); go_simp⟩) (by assumption) ?_;(try simp only [Act.put,z0q,z1q,z2q,z3q,z4q,z5q]);refine wpAnyH_done (by kernel_rfl) ?_ _;clear hHeld JS;replace B0:=Lib.hid (q0a B0.out Y1.out);go_wp2
  go_ret
  exact ⟨rfl,B0.out⟩
theorem rbare_any (c:CD) (w:World) :
  Calls Tryz.prog 54 #[.agg #[.string ⟨c.k.toArray⟩,.int .u8 c.kd,.bool c.y,.int .i64 c.n,.int .i64 c.e,.string ⟨c.t.toArray⟩,.string ⟨c.o.toArray⟩]] w fun e w'=>e=.returned (.agg #[.string ⟨(bareC c).k.toArray⟩,.int .u8 (bareC c).kd,.bool (bareC c).y,.int .i64 (bareC c).n,.int .i64 (bareC c).e,.string ⟨(bareC c).t.toArray⟩,.string ⟨(bareC c).o.toArray⟩])∧Below w.heap.size w w':=by
 have hcs:c.kd=1∨c.kd=2∨c.kd=3∨c.kd=4∨c.kd=5∨(c.kd≠1∧c.kd≠2∧c.kd≠3∧c.kd≠4∧c.kd≠5):=(by omega);rcases hcs with h | h | h | h | h | h
 ·have a1:((c.kd:Int) == 1)=true:=(by simp; omega);have a2:((c.kd:Int) == 2)=false:=beq_eq_false_iff_ne.2 (by omega);have a3:((c.kd:Int) == 3)=false:=beq_eq_false_iff_ne.2 (by omega);have a4:((c.kd:Int) == 4)=false:=beq_eq_false_iff_ne.2 (by omega);have a5:((c.kd:Int) == 5)=false:=beq_eq_false_iff_ne.2 (by omega);have hB:bareC c=⟨c.k,c.kd,false,0,0,c.t,[]⟩:=(by unfold bareC; simp [h]);rw [hB];dsimp only;clear hB h;go_enter Tryz.func54,Tryz.ntmps54
  go_wp2_with fail
  exact bodyPost_ret (v:=.agg #[.string ⟨c.k.toArray⟩,.int .u8 c.kd,.bool false,.int .i64 0,.int .i64 0,.string ⟨c.t.toArray⟩,.string ⟨#[]⟩]) (by simp [results,Tryz.results54,go_sem]) rfl ⟨rfl,blw3 _ _ _ _⟩
 ·have a1:((c.kd:Int) == 1)=false:=beq_eq_false_iff_ne.2 (by omega);have a2:((c.kd:Int) == 2)=true:=(by simp; omega);have a3:((c.kd:Int) == 3)=false:=beq_eq_false_iff_ne.2 (by omega);have a4:((c.kd:Int) == 4)=false:=beq_eq_false_iff_ne.2 (by omega);have a5:((c.kd:Int) == 5)=false:=beq_eq_false_iff_ne.2 (by omega);have hB:bareC c=⟨c.k,c.kd,c.y,0,0,[],c.o⟩:=(by unfold bareC; simp [h]);rw [hB];dsimp only;clear hB h;go_enter Tryz.func54,Tryz.ntmps54
  go_wp2_with fail
  exact bodyPost_ret (v:=.agg #[.string ⟨c.k.toArray⟩,.int .u8 c.kd,.bool c.y,.int .i64 0,.int .i64 0,.string ⟨#[]⟩,.string ⟨c.o.toArray⟩]) (by simp [results,Tryz.results54,go_sem]) rfl ⟨rfl,blw3 _ _ _ _⟩
 ·have a1:((c.kd:Int) == 1)=false:=beq_eq_false_iff_ne.2 (by omega);have a2:((c.kd:Int) == 2)=false:=beq_eq_false_iff_ne.2 (by omega);have a3:((c.kd:Int) == 3)=true:=(by simp; omega);have a4:((c.kd:Int) == 4)=false:=beq_eq_false_iff_ne.2 (by omega);have a5:((c.kd:Int) == 5)=false:=beq_eq_false_iff_ne.2 (by omega);have hB:bareC c=⟨c.k,c.kd,false,c.n,0,[],c.o⟩:=(by unfold bareC; simp [h]);rw [hB];dsimp only;clear hB h;go_enter Tryz.func54,Tryz.ntmps54
  go_wp2_with fail
  exact bodyPost_ret (v:=.agg #[.string ⟨c.k.toArray⟩,.int .u8 c.kd,.bool false,.int .i64 c.n,.int .i64 0,.string ⟨#[]⟩,.string ⟨c.o.toArray⟩]) (by simp [results,Tryz.results54,go_sem]) rfl ⟨rfl,blw3 _ _ _ _⟩
 ·have a1:((c.kd:Int) == 1)=false:=beq_eq_false_iff_ne.2 (by omega);have a2:((c.kd:Int) == 2)=false:=beq_eq_false_iff_ne.2 (by omega);have a3:((c.kd:Int) == 3)=false:=beq_eq_false_iff_ne.2 (by omega);have a4:((c.kd:Int) == 4)=true:=(by simp; omega);have a5:((c.kd:Int) == 5)=false:=beq_eq_false_iff_ne.2 (by omega);have hB:bareC c=⟨c.k,c.kd,false,c.n,c.e,[],c.o⟩:=(by unfold bareC; simp [h]);rw [hB];dsimp only;clear hB h;go_enter Tryz.func54,Tryz.ntmps54
  go_wp2_with fail
  go_region
  all_goals go_wp2_with fail
  all_goals exact bodyPost_ret (v:=.agg #[.string ⟨c.k.toArray⟩,.int .u8 c.kd,.bool false,.int .i64 c.n,.int .i64 c.e,.string ⟨#[]⟩,.string ⟨c.o.toArray⟩]) (by simp [results,Tryz.results54,go_sem]) rfl ⟨rfl,(blw3 _ _ _ _).drew⟩
 ·have a1:((c.kd:Int) == 1)=false:=beq_eq_false_iff_ne.2 (by omega);have a2:((c.kd:Int) == 2)=false:=beq_eq_false_iff_ne.2 (by omega);have a3:((c.kd:Int) == 3)=false:=beq_eq_false_iff_ne.2 (by omega);have a4:((c.kd:Int) == 4)=false:=beq_eq_false_iff_ne.2 (by omega);have a5:((c.kd:Int) == 5)=true:=(by simp; omega);have hB:bareC c=⟨c.k,c.kd,false,0,0,c.t,c.o⟩:=(by unfold bareC; simp [h]);rw [hB];dsimp only;clear hB h;go_enter Tryz.func54,Tryz.ntmps54
  go_wp2_with fail
  exact bodyPost_ret (v:=.agg #[.string ⟨c.k.toArray⟩,.int .u8 c.kd,.bool false,.int .i64 0,.int .i64 0,.string ⟨c.t.toArray⟩,.string ⟨c.o.toArray⟩]) (by simp [results,Tryz.results54,go_sem]) rfl ⟨rfl,blw3 _ _ _ _⟩
 ·have a1:((c.kd:Int) == 1)=false:=beq_eq_false_iff_ne.2 (by omega);have a2:((c.kd:Int) == 2)=false:=beq_eq_false_iff_ne.2 (by omega);have a3:((c.kd:Int) == 3)=false:=beq_eq_false_iff_ne.2 (by omega);have a4:((c.kd:Int) == 4)=false:=beq_eq_false_iff_ne.2 (by omega);have a5:((c.kd:Int) == 5)=false:=beq_eq_false_iff_ne.2 (by omega);have hB:bareC c=⟨c.k,c.kd,false,0,0,[],c.o⟩:=(by unfold bareC; simp [h]);rw [hB];dsimp only;clear hB h;go_enter Tryz.func54,Tryz.ntmps54
  go_wp2_with fail
  exact bodyPost_ret (v:=.agg #[.string ⟨c.k.toArray⟩,.int .u8 c.kd,.bool false,.int .i64 0,.int .i64 0,.string ⟨#[]⟩,.string ⟨c.o.toArray⟩]) (by simp [results,Tryz.results54,go_sem]) rfl ⟨rfl,blw3 _ _ _ _⟩
end Go.Proofs.YtcpofeehpijbcaaGreatDoor
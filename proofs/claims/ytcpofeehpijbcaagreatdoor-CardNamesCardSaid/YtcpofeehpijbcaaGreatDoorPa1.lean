import Derived.Test.YtcpofeehpijbcaaGreatDoorPaM
import Derived.Test.YtcpofeehpijbcaaGreatDoorMg4
set_option maxHeartbeats 4000000
set_option maxRecDepth 100000
namespace Go.Proofs.YtcpofeehpijbcaaGreatDoor
open Go.RowKit Go.Lib Go.Shelf
attribute [local go_sem ↓] Go.wp_at_zero Go.wp_at_succ
@[reducible] def malE:Ending:=.panicked [{ v:=.iface 83 (.agg #[]),recovered:=false }]
theorem fold_take {l:List UInt8} {k:Nat} (h:k < l.length):(l.take (k+1)).foldl digN 0=10 * (l.take k).foldl digN 0+((l[k].toNat:Int) - 48):=by
 rw [← List.take_append_getElem h,List.foldl_append]; rfl
theorem fold_lt {l:List UInt8} {k:Nat} (hk:k≤17) (h:(l.take k).all dig=true):0≤(l.take k).foldl digN 0∧(l.take k).foldl digN 0 < 100000000000000000:=by
 obtain ⟨a,b⟩:=foldl_dig (l.take k) 0 h (by decide);refine ⟨a,Int.lt_of_lt_of_le b ?_⟩;rw [Int.zero_add,Int.one_mul];have h2:(10:Nat) ^ (l.take k).length≤10 ^ 17:=Nat.pow_le_pow_right (by decide) (by rw [List.length_take]; omega);have h3:((10 ^ (l.take k).length:Nat):Int)≤((10 ^ 17:Nat):Int):=Int.ofNat_le.2 h2;rw [Int.natCast_pow] at h3;exact h3
@[reducible] def MayO {α:Type} (o:Option α) (f:α→Value) (e:Ending):Prop:=match o with | some x=>e=.returned (f x) | none=>e=malE
theorem need_ok (w:World):Calls Tryz.prog 47 #[.bool true] w fun e w'=>e=.returned (.tuple #[])∧Below w.heap.size w w':=by
 go_enter Tryz.func47,Tryz.ntmps47
 go_wp2
 go_end0
 exact ⟨rfl,Below.refl _ _⟩
theorem q0m (w:World):Calls Tryz.prog 47 #[.bool false] w fun e w'=>e=malE∧Below w.heap.size w w':=by
 go_enter Tryz.func47,Tryz.ntmps47
 go_wp2
 exact ⟨rfl,rfl,Below.refl _ _⟩
theorem csign_any (l:List UInt8) (hl:l.length≤281474976710656) (w:World) :
  Calls Tryz.prog 189 #[.string ⟨l.toArray⟩] w fun e w'=>e=.returned (.tuple #[.bool (sgnS l).1,.string ⟨(sgnS l).2.toArray⟩])∧Below w.heap.size w w':=by
 cases l with
 | nil=>
  go_enter Tryz.func189,Tryz.ntmps189
  go_wp2
  exact bodyPost_ret (v:=.tuple #[.bool false,.string ⟨#[]⟩]) (by simp [results,Tryz.results189,go_sem]) rfl ⟨rfl,Below.refl _ _⟩
 | cons c r=>
  have IX:=fun W=>idx_str (c :: r) 0 (by simp) 0 rfl W;have hsz:(ByteArray.mk (c :: r).toArray).size=r.length+1:=(by simp [ByteArray.size]);have hx:(ByteArray.mk (c :: r).toArray).extract 1 (r.length+1)=⟨r.toArray⟩:=(by rw [q1d]; simp);have hl2:r.length+1≤281474976710656:=(by simpa using hl);have he:((c :: r) == [])=false:=rfl
  have hch:c=45∨c=43∨(c≠45∧c≠43):=by
   by_cases h1:c=45
   ·exact .inl h1
   ·by_cases h2:c=43
    ·exact .inr (.inl h2)
    ·exact .inr (.inr ⟨h1,h2⟩)
  clear hl;rcases hch with rfl | rfl | ⟨g1,g2⟩
  ·have IX2:∀ W,(Instr.index 9 (.string ⟨(45 :: r).toArray⟩) (.int .i64 0)).run Tryz.prog W=.ok (.int .u8 45) W:=IX;clear IX;have SG:Hid (sgnS (45 :: r)=(true,r)):=rfl;rw [SG.out];generalize (45 :: r)=l at *;go_enter Tryz.func189,Tryz.ntmps189
   go_wp2
   go_quiet (fail)
   go_wp2
   exact bodyPost_ret (v:=.tuple #[.bool true,.string ⟨r.toArray⟩]) (by simp [results,Tryz.results189,go_sem]) rfl ⟨rfl,below_drewN (Below.refl _ _) nq⟩
  ·have IX2:∀ W,(Instr.index 9 (.string ⟨(43 :: r).toArray⟩) (.int .i64 0)).run Tryz.prog W=.ok (.int .u8 43) W:=IX;clear IX;have SG:Hid (sgnS (43 :: r)=(false,r)):=rfl;rw [SG.out];generalize (43 :: r)=l at *;go_enter Tryz.func189,Tryz.ntmps189
   go_wp2
   go_quiet (fail)
   go_wp2
   exact bodyPost_ret (v:=.tuple #[.bool false,.string ⟨r.toArray⟩]) (by simp [results,Tryz.results189,go_sem]) rfl ⟨rfl,below_drewN (Below.refl _ _) nq⟩
  ·have IX2:∀ W,(Instr.index 9 (.string ⟨(c :: r).toArray⟩) (.int .i64 0)).run Tryz.prog W=.ok (.int .u8 c.toNat) W:=IX;clear IX;have e1:((c.toNat:Int) == 45)=false:=(by rw [beq_eq_false_iff_ne]; intro h; exact g1 (by rw [← UInt8.toNat_inj]; show c.toNat=45; omega));have e2:((c.toNat:Int) == 43)=false:=(by rw [beq_eq_false_iff_ne]; intro h; exact g2 (by rw [← UInt8.toNat_inj]; show c.toNat=43; omega));have SG:Hid (sgnS (c :: r)=(false,c :: r)):=(by show (if c=45 then (true,r) else if c=43 then (false,r) else (false,c :: r))=_; rw [if_neg g1,if_neg g2]);rw [SG.out];generalize (c :: r)=l at *;generalize c.toNat=cn at *;go_enter Tryz.func189,Tryz.ntmps189
   go_wp2
   exact bodyPost_ret (v:=.tuple #[.bool false,.string ⟨l.toArray⟩]) (by simp [results,Tryz.results189,go_sem]) rfl ⟨rfl,Below.refl _ _⟩
theorem count_any (l:List UInt8) (hl:l.length≤281474976710656) (lo hi:Nat) (_h1:lo≤18) (h2:hi≤18) (w:World) :
  Calls Tryz.prog 190 #[.string ⟨l.toArray⟩,.int .i64 lo,.int .i64 hi] w fun e w'=>MayO (cntS l lo hi) (fun n=>.int .i64 n) e∧Below w.heap.size w w':=by
 have CX:Hid (cntS l lo hi=if decide (lo≤l.length) && decide (l.length≤hi) && l.all dig then some (l.foldl digN 0) else none):=rfl;generalize cntS l lo hi=R at *;by_cases h3:lo≤l.length
 ·have d1:decide ((lo:Int)≤(l.length:Int))=true:=decide_eq_true (by omega);have d1':decide (lo≤l.length)=true:=decide_eq_true (by omega);by_cases h4:l.length≤hi
  ·have d2:decide ((l.length:Int)≤(hi:Int))=true:=decide_eq_true (by omega);have d2':decide (l.length≤hi)=true:=decide_eq_true (by omega);rw [decide_eq_true h3,decide_eq_true h4,Bool.true_and,Bool.true_and] at CX;have hl18:l.length≤18:=(by omega);clear h3 h4 _h1 h2;go_enter Tryz.func190,Tryz.ntmps190
   go_wp2_with fail
   refine (need_ok _).mono ?_;rintro e w1 ⟨rfl,hb⟩;have B0:=Lib.hid hb;have HW:=Lib.hid hb.size;clear hb;go_wp2
   have I0:Hid ((w1.iter ⟨l.toArray⟩ 0).heap[w1.heap.size]? = some (.stringIter ⟨l.toArray⟩ 0)):=World.iter_heap w1 _ 0;replace B0:=Lib.hid (q0a B0.out (blw1 w1 (.stringIter ⟨l.toArray⟩ 0)));have w1l:w1.heap.size < (w1.iter ⟨l.toArray⟩ 0).heap.size:=lt_of_block I0.out;clear d1 d1' d2 d2';go_loopg [7,9] l.length (fun gf s7 _ wx=>∃ pos:Nat,pos≤l.length∧gf+pos=l.length∧(l.take pos).all dig=true∧s7=.int .i64 ((l.take pos).foldl digN 0)∧wx.heap[w1.heap.size]? = some (.stringIter ⟨l.toArray⟩ pos)∧Below w.heap.size w wx)
   case atStart=>exact ⟨0,by omega,by omega,rfl,rfl,I0.out,B0.out⟩
   case round=>
    clear I0 B0;obtain ⟨pos,hpos,hgf,hall,rfl,hit,b⟩:=hrel;have HA:=Lib.hid hall;have B:=Lib.hid b;clear hall b;have hw1:w.heap.size≤w1.heap.size:=HW.out;by_cases hps:pos < l.length
    ·obtain ⟨r,p,hnx,hr,hcase⟩:=next_byte wr w1.heap.size l pos hit hps;have I2:=Lib.hid (iterAt_heap wr w1.heap.size ⟨l.toArray⟩ pos p hit);have B2:=Lib.hid (below_iterAt B.out (k:=w1.heap.size) hw1 ⟨l.toArray⟩ p);by_cases hc:dig l[pos]=true
     ·have hq:48≤l[pos].toNat∧l[pos].toNat≤57:=(by simpa [dig] using hc);obtain ⟨-,rfl,rfl⟩:l[pos].toNat < 128∧r=l[pos].toNat∧p=pos+1:=by omega
      have HA2:Hid ((l.take (pos+1)).all dig=true):=(by unfold Hid; rw [all_take_succ hps,HA.out,hc]; rfl);have FT:=Lib.hid (fold_take hps);obtain ⟨f1,f2⟩:=fold_lt (l:=l) (k:=pos) (by omega) HA.out;generalize (l.take pos).foldl digN 0=n at *;generalize l[pos].toNat=c at *;have g1:decide ((48:Int)≤(c:Int))=true:=decide_eq_true (by omega);have g2:decide ((c:Int)≤57)=true:=decide_eq_true (by omega);have j1:IntKind.i64.wrap (10 * n)=10 * n:=IntWalk.i64_in _ (by omega);have j2:IntKind.i32.wrap ((c:Int) - 48)=(c:Int) - 48:=IntWalk.i32_in _ (by omega);have j3:IntKind.i64.wrap ((c:Int) - 48)=(c:Int) - 48:=IntWalk.i64_in _ (by omega);have j4:IntKind.i64.wrap (10 * n+((c:Int) - 48))=10 * n+((c:Int) - 48):=IntWalk.i64_in _ (by omega);clear hc hq hit B hcase HA hr;go_wp2_with fail
      refine (need_ok _).mono ?_;rintro e w2 ⟨rfl,hb⟩;have I3:Hid (w2.heap[w1.heap.size]? = some (.stringIter ⟨l.toArray⟩ (pos+1))):=(hb.block _ (lt_of_block I2.out)).trans I2.out;have B3:=Lib.hid (q0a B2.out hb);clear hb I2 B2 hnx g1 g2;go_wp2
      go_roundg (gk - 1)
      case measure=>omega
      case rel=>exact ⟨pos+1,hps,by omega,HA2.out,by rw [FT.out],I3.out,B3.out⟩
     ·have hf:(l.all dig)=false:=all_false hps (by simpa using hc);have hR:R=none:=(by rw [CX.out,hf]; rfl);subst hR
      have hq:r < 48∨57 < r:=by
       rcases hcase with ⟨_,rfl,_⟩ | ⟨_,h⟩
       ·have:¬ (48≤l[pos].toNat∧l[pos].toNat≤57):=(by simpa [dig] using hc);omega
       ·omega
      clear hc hit B hcase HA CX hf;rcases hq with hq | hq
      ·have g1:decide ((48:Int)≤(r:Int))=false:=decide_eq_false (by omega);go_wp2_with fail
       refine (q0m _).mono ?_;rintro e w2 ⟨rfl,hb⟩;go_wp2_with fail
       exact ⟨rfl,rfl,q0a B2.out hb⟩
      ·have g1:decide ((48:Int)≤(r:Int))=true:=decide_eq_true (by omega);have g2:decide ((r:Int)≤57)=false:=decide_eq_false (by omega);go_wp2_with fail
       refine (q0m _).mono ?_;rintro e w2 ⟨rfl,hb⟩;go_wp2_with fail
       exact ⟨rfl,rfl,q0a B2.out hb⟩
    ·obtain rfl:pos=l.length:=by omega
     have hs:(ByteArray.mk l.toArray).size=l.length:=(by simp [ByteArray.size]);have hnx:∀ ty,(Instr.next (.pointer (some ⟨w1.heap.size,0,none⟩)) true ty).run Tryz.prog wr=_:=fun ty=>run_next_end_at wr w1.heap.size ⟨l.toArray⟩ l.length ty hit (by rw [hs]; omega);clear hs;have HF:Hid (R=some (l.foldl digN 0)):=(by have:=HA.out; rw [List.take_length] at this; unfold Hid; rw [CX.out,this]; rfl);rw [List.take_length];generalize l.foldl digN 0=n at *;go_wp2
     go_ret
     exact ⟨by rw [HF.out]; rfl,B.out⟩
  ·have d2:decide ((l.length:Int)≤(hi:Int))=false:=decide_eq_false (by omega);have d2':decide (l.length≤hi)=false:=decide_eq_false (by omega);have hR:R=none:=(by rw [CX.out,decide_eq_false h4]; simp);subst hR;clear CX;go_enter Tryz.func190,Tryz.ntmps190
   go_wp2_with fail
   refine (q0m _).mono ?_;rintro e w1 ⟨rfl,hb⟩;go_wp2_with fail
   exact ⟨rfl,rfl,hb⟩
 ·have d1:decide ((lo:Int)≤(l.length:Int))=false:=decide_eq_false (by omega);have d1':decide (lo≤l.length)=false:=decide_eq_false (by omega);have hR:R=none:=(by rw [CX.out,decide_eq_false h3]; simp);subst hR;clear CX;go_enter Tryz.func190,Tryz.ntmps190
  go_wp2_with fail
  refine (q0m _).mono ?_;rintro e w1 ⟨rfl,hb⟩;go_wp2_with fail
  exact ⟨rfl,rfl,hb⟩
end Go.Proofs.YtcpofeehpijbcaaGreatDoor
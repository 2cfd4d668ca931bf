import Derived.Test.YtcpofeehpijbcaaGreatDoorRows
import Derived.Test.YtcpofeehpijbcaaGreatDoorMemV
import Derived.Test.YtcpofeehpijbcaaGreatDoorMg1
import Derived.WalkKit
import Derived.WalkSpells
import Derived.WalkLawsBesides
import Derived.Deep.QuietTactic
import Derived.Deep.RegionHeld3
import Derived.Deep.DrawnRows
import Derived.Deep.LoopGhost
import Derived.Lib.OthersKept
import Derived.BigQuiet
set_option maxHeartbeats 2000000
set_option maxRecDepth 100000
namespace Go.Proofs.YtcpofeehpijbcaaGreatDoor
open Go.RowKit Go.Lib
attribute [local go_sem ↓] Go.wp_at_zero Go.wp_at_succ
theorem getb (t:List UInt8) (i:Nat) (h:i < t.length):(ByteArray.mk t.toArray).get! i=t[i]:=by
  show (t.toArray)[i]! = _
  simp [h]
theorem decb_hi {s:ByteArray} {i:Nat} (h:128≤(s.get! i).toNat):128≤(Utf8.decode s i).1:=by
  unfold Utf8.decode;simp only [Nat.add_zero];rw [if_neg (by omega)];have hr:128≤Utf8.runeError:=(by decide);split
  · split
    · simpa using ‹_›
    · exact hr
  · split
    · split
      · rename_i h3
        simp only [Bool.and_eq_true,decide_eq_true_eq] at h3;have:=h3.1;show 128≤_
        omega
      · exact hr
    · split
      · split
        · rename_i h3
          simp only [Bool.and_eq_true,decide_eq_true_eq] at h3;have:=h3.1;show 128≤_
          omega
        · exact hr
      · exact hr
theorem next_byte (w:World) (k:Nat) (l:List UInt8) (pos:Nat) (hk:w.heap[k]? = some (.stringIter ⟨l.toArray⟩ pos)) (h:pos < l.length) :
    ∃ r p:Nat,(∀ ty,(Instr.next (.pointer (some ⟨k,0,none⟩)) true ty).run Tryz.prog w=.ok (.tuple #[.bool true,.int .i64 pos,.int .i32 r]) (w.iterAt k ⟨l.toArray⟩ p))∧r≤2147483647∧((l[pos].toNat < 128∧r=l[pos].toNat∧p=pos+1)∨(128≤l[pos].toNat∧128≤r)):=by
  have hs:(ByteArray.mk l.toArray).size=l.length:=(by simp [ByteArray.size]);by_cases ha:l[pos].toNat < 128
  · refine ⟨l[pos].toNat,pos+1,fun ty=>run_next_ascii_at w k ⟨l.toArray⟩ pos ty hk (by omega) ha,by omega,.inl ⟨ha,rfl,rfl⟩⟩
  · refine ⟨_,_,fun ty=>run_next_any_at w k ⟨l.toArray⟩ pos ty hk (by omega),decode_le _ _,.inr ⟨by omega,decb_hi ?_⟩⟩;rw [getb l pos h]; omega
theorem all_take_succ {p:UInt8→Bool} {l:List UInt8} {k:Nat} (h:k < l.length):(l.take (k+1)).all p=((l.take k).all p && p l[k]):=by
  rw [← List.take_append_getElem h,List.all_append]; simp
theorem all_false {p:UInt8→Bool} {l:List UInt8} {k:Nat} (h:k < l.length) (hp:p l[k]=false):l.all p=false:=by
  rw [List.all_eq_false]; exact ⟨_,List.getElem_mem h,by rw [hp]; decide⟩
theorem printable_any (l:List UInt8) (hl:l.length≤281474976710656) (w:World) :
    Calls Tryz.prog 48 #[.string ⟨l.toArray⟩] w fun e w'=>e=.returned (.bool (prt l))∧Below w.heap.size w w':=by
  go_enter Tryz.func48,Tryz.ntmps48
  go_wp2
  have I0:Hid ((w.iter ⟨l.toArray⟩ 0).heap[w.heap.size]? = some (.stringIter ⟨l.toArray⟩ 0)):=World.iter_heap w _ 0;have B0:Hid (Below w.heap.size w (w.iter ⟨l.toArray⟩ 0)):=blw1 _ (.stringIter _ 0);go_loopg [4] l.length (fun gf _ wx=>∃ pos:Nat,pos≤l.length∧gf+pos=l.length∧(l.take pos).all pch=true∧wx.heap[w.heap.size]? = some (.stringIter ⟨l.toArray⟩ pos)∧Below w.heap.size w wx)
  case atStart=>exact ⟨0,by omega,by omega,rfl,I0.out,B0.out⟩
  case round=>
    clear I0 B0;obtain ⟨pos,hpos,hgf,hall,hit,b⟩:=hrel;have HA:=Lib.hid hall;have B:=Lib.hid b;clear hall b;by_cases hps:pos < l.length
    · obtain ⟨r,p,hnx,hr,hcase⟩:=next_byte wr w.heap.size l pos hit hps;have I2:=Lib.hid (iterAt_heap wr w.heap.size ⟨l.toArray⟩ pos p hit);have B2:=Lib.hid (below_iterAt B.out (k:=w.heap.size) (Nat.le_refl _) ⟨l.toArray⟩ p);by_cases hc:pch l[pos]=true
      · have hq:32≤l[pos].toNat∧l[pos].toNat≤126:=(by simpa [pch] using hc);obtain ⟨-,rfl,rfl⟩:l[pos].toNat < 128∧r=l[pos].toNat∧p=pos+1:=by omega
        have HA2:Hid ((l.take (pos+1)).all pch=true):=(by unfold Hid; rw [all_take_succ hps,HA.out,hc]; rfl);have h1:decide ((l[pos].toNat:Int) < 32)=false:=decide_eq_false (by omega);have h2:decide ((126:Int) < (l[pos].toNat:Int))=false:=decide_eq_false (by omega);clear hc hq hit B hcase HA;go_wp2
        go_roundg (gk - 1)
        case measure=>omega
        case rel=>exact ⟨pos+1,hps,by omega,HA2.out,I2.out,B2.out⟩
      · have hq:r < 32∨126 < r:=by
          rcases hcase with ⟨_,rfl,_⟩ | ⟨_,h⟩
          · have:¬ (32≤l[pos].toNat∧l[pos].toNat≤126):=(by simpa [pch] using hc);omega
          · omega
        have HF:Hid (prt l=false):=all_false hps (by simpa using hc);clear hc hit B hcase HA;rcases hq with hq | hq
        · have h1:decide ((r:Int) < 32)=true:=decide_eq_true (by omega);go_wp2
          go_ret
          exact ⟨by rw [HF.out]; rfl,B2.out⟩
        · have h1:decide ((r:Int) < 32)=false:=decide_eq_false (by omega);have h2:decide ((126:Int) < (r:Int))=true:=decide_eq_true (by omega);go_wp2
          go_ret
          exact ⟨by rw [HF.out]; rfl,B2.out⟩
    · obtain rfl:pos=l.length:=by omega
      have hs:(ByteArray.mk l.toArray).size=l.length:=(by simp [ByteArray.size]);have hnx:∀ ty,(Instr.next (.pointer (some ⟨w.heap.size,0,none⟩)) true ty).run Tryz.prog wr=_:=fun ty=>run_next_end_at wr w.heap.size ⟨l.toArray⟩ l.length ty hit (by rw [hs]; omega);clear hs;have HF:Hid (prt l=true):=(by have:=HA.out; rw [List.take_length] at this; exact this);go_wp2
      go_ret
      exact ⟨by rw [HF.out]; rfl,B.out⟩
theorem isWord_any (l:List UInt8) (hl:l.length≤281474976710656) (w:World) :
    Calls Tryz.prog 90 #[.string ⟨l.toArray⟩] w fun e w'=>e=.returned (.bool (wrdB l))∧Below w.heap.size w w':=by
  go_enter Tryz.func90,Tryz.ntmps90
  go_wp2
  have I0:Hid ((w.iter ⟨l.toArray⟩ 0).heap[w.heap.size]? = some (.stringIter ⟨l.toArray⟩ 0)):=World.iter_heap w _ 0;have B0:Hid (Below w.heap.size w (w.iter ⟨l.toArray⟩ 0)):=blw1 _ (.stringIter _ 0);go_loopg [4] l.length (fun gf _ wx=>∃ pos:Nat,pos≤l.length∧gf+pos=l.length∧(l.take pos).all wch=true∧wx.heap[w.heap.size]? = some (.stringIter ⟨l.toArray⟩ pos)∧Below w.heap.size w wx)
  case atStart=>exact ⟨0,by omega,by omega,rfl,I0.out,B0.out⟩
  case round=>
    clear I0 B0;obtain ⟨pos,hpos,hgf,hall,hit,b⟩:=hrel;have HA:=Lib.hid hall;have B:=Lib.hid b;clear hall b;by_cases hps:pos < l.length
    · obtain ⟨r,p,hnx,hr,hcase⟩:=next_byte wr w.heap.size l pos hit hps;have I2:=Lib.hid (iterAt_heap wr w.heap.size ⟨l.toArray⟩ pos p hit);have B2:=Lib.hid (below_iterAt B.out (k:=w.heap.size) (Nat.le_refl _) ⟨l.toArray⟩ p)
      have hw:wch l[pos]=true ↔ ((65≤r∧r≤90)∨(48≤r∧r≤57)∨r=45∨r=95):=by
        have e:wch l[pos]=true ↔ ((65≤l[pos].toNat∧l[pos].toNat≤90)∨(48≤l[pos].toNat∧l[pos].toNat≤57)∨l[pos].toNat=45∨l[pos].toNat=95):=by
          simp only [wch,Bool.or_eq_true,Bool.and_eq_true,decide_eq_true_eq,beq_iff_eq,← UInt8.toNat_inj];show ((_∨_)∨l[pos].toNat=45)∨l[pos].toNat=95 ↔ _
          omega
        rw [e];omega
      have HF:Hid (wch l[pos]=false→wrdB l=false):=fun h=>by unfold wrdB; rw [all_false hps h]; rfl
      have HT:Hid (wch l[pos]=true→r=l[pos].toNat∧p=pos+1∧(l.take (pos+1)).all wch=true):=fun h=>by
        refine ⟨?_,?_,by rw [all_take_succ hps,HA.out,h]; rfl⟩
        · have:=hw.1 h; omega
        · have:=hw.1 h; omega
      clear hcase HA hit B;go_wp2
      all_goals first
        | (go_ret
           have hf:wch l[pos]=false:=by
             cases hcc:wch l[pos] with
             | false=>rfl
             | true=>exfalso; have:=hw.1 hcc; simp at *; omega
           exact ⟨by rw [HF.out hf]; rfl,B2.out⟩)
        | (have hc:wch l[pos]=true:=hw.2 (by simp at *; omega)
           obtain ⟨-,rfl,ha⟩:=HT.out hc;go_roundg (gk - 1)
           case measure=>omega
           case rel=>exact ⟨pos+1,hps,by omega,ha,I2.out,B2.out⟩)
    · obtain rfl:pos=l.length:=by omega
      have hs:(ByteArray.mk l.toArray).size=l.length:=(by simp [ByteArray.size]);have hnx:∀ ty,(Instr.next (.pointer (some ⟨w.heap.size,0,none⟩)) true ty).run Tryz.prog wr=_:=fun ty=>run_next_end_at wr w.heap.size ⟨l.toArray⟩ l.length ty hit (by rw [hs]; omega);have HF:Hid (wrdB l=(decide (1≤l.length) && decide (l.length≤8))):=(by unfold Hid wrdB; have:=HA.out; rw [List.take_length] at this; rw [this]; rfl);by_cases u1:1≤l.length <;> by_cases u2:l.length≤8
      all_goals first
        | (exfalso; omega)
        | (go_wp2
           go_ret
           exact ⟨by rw [HF.out]; simp [u1,u2] <;> omega,B.out⟩)
end Go.Proofs.YtcpofeehpijbcaaGreatDoor
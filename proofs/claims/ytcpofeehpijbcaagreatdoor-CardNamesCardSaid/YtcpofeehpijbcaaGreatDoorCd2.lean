import Derived.Test.YtcpofeehpijbcaaGreatDoorCd1
import Derived.Test.YtcpofeehpijbcaaGreatDoorShelf
set_option maxHeartbeats 1000000
set_option maxRecDepth 100000
namespace Go.Proofs.YtcpofeehpijbcaaGreatDoor
open Go.RowKit Go.Lib Go.Shelf
attribute [local go_sem ↓] Go.wp_at_zero Go.wp_at_succ
theorem q0d (a b:List UInt8):ByteArray.mk a.toArray ++ ByteArray.mk b.toArray=ByteArray.mk (a ++ b).toArray:=by
 apply ByteArray.ext
 simp
theorem join_flat (xs:List (List UInt8)):Lib.join (xs.map ((fun y:ByteArray=>y.data.toList) ∘ fun x:List UInt8=>ByteArray.mk x.toArray)) (ByteArray.mk #[]).data.toList=xs.flatten:=by
 have e:(xs.map ((fun y:ByteArray=>y.data.toList) ∘ fun x:List UInt8=>ByteArray.mk x.toArray))=xs:=by
  conv=>rhs; rw [← List.map_id xs]
  rfl
 rw [e]
 cases xs with
 | nil=>rfl
 | cons x r=>
  rw [join_cons]
  have:joinTail (ByteArray.mk #[]).data.toList r=r.flatten:=by
   unfold joinTail;congr 1
   conv=>rhs; rw [← List.map_id r]
   rfl
  rw [this];rfl
theorem bWrite_any (B b:Nat) (bs:List Value) (s:ByteArray) (w:World) (h:Lib.IsBuilder 114 5 B b bs w) (hlen:bs.length+s.size≤140737488355328) (hBw:B≤w.heap.size) :
  Calls Tryz.prog 83 #[.pointer (some ⟨b,0,none⟩),.string s] w fun e w'=>e=.returned (.tuple #[.int .i64 s.size,.nilIface])∧(Lib.IsBuilder 114 5 B b (bs ++ Lib.strCells s) w'∧Below B w w'):=by
 have h:=Any.Builder_WriteString { Tryz.lays156 with } Tryz.Builder_Extra_156 B b bs s w h hlen hBw;exact h.mono fun e w' ⟨h1,h2,h3⟩=>⟨h1,Or.inr h2,h3⟩
theorem isRemark_any (l:List UInt8) (w:World) :
  Calls Tryz.prog 88 #[.string ⟨l.toArray⟩] w fun e w'=>e=.returned (.bool (remB l))∧w=w':=by
 go_enter Tryz.func88,Tryz.ntmps88
 go_wp2
 all_goals
  go_ret
  exact ⟨by simp_all [remB,sCOM,sHIS],rfl⟩
theorem pad_any (l:List UInt8) (n:Nat) (hl:l.length≤70368744177664) (hn:n≤10000) (w:World) :
  Calls Tryz.prog 121 #[.string ⟨l.toArray⟩,.int .i64 n] w fun e w'=>e=.returned (.string ⟨(padR l n).toArray⟩)∧Below w.heap.size w w':=by
 have HR:Hid (∀ W,Calls Tryz.prog 140 #[.string ⟨#[32]⟩,.int .i64 (max 0 ((n:Int) - (l.length:Int)))] W fun e w'=>e=.returned (.string ⟨(List.replicate (n - l.length) 32).toArray⟩)∧Below W.heap.size W w'):=fun W=>by
  have h:=Tryz.strings_Repeat ⟨#[32]⟩ (n - l.length) W (by omega) (by show 1 * _≤_; omega);rw [show max 0 ((n:Int) - (l.length:Int))=((n - l.length:Nat):Int) by omega,← repl_one];exact h
 have hrl:(List.replicate (n - l.length) (32:UInt8)).length≤10000:=(by rw [List.length_replicate]; omega);have E:Hid (padR l n=l ++ List.replicate (n - l.length) 32):=rfl;have hd:(-9223372036854775808:Int)≤(n:Int) - (l.length:Int)∧(n:Int) - (l.length:Int)≤9223372036854775807:=(by omega);generalize List.replicate (n - l.length) (32:UInt8)=r at *;go_enter Tryz.func121,Tryz.ntmps121
 go_wp2_with fail
 refine (HR.out _).mono ?_;rintro e w1 ⟨rfl,hb⟩;have B:=Lib.hid hb;clear hb;go_wp2
 go_ret
 exact ⟨by rw [E.out,← q0d]; rfl,B.out⟩
theorem join_any (b:Nat) (t:TypeId) (xs:List (List UInt8)) (w:World) (hc:BlkV w b t (xs.map fun x=>Value.string ⟨x.toArray⟩).toArray) (hn:xs.length≤100) (hl:xs.flatten.length≤140737488355328) :
  Calls Tryz.prog 122 #[.slice (some ⟨b,0,none⟩) xs.length xs.length] w fun e w'=>e=.returned (.string ⟨xs.flatten.toArray⟩)∧Below w.heap.size w w':=by
 have hj:=Tryz.strings_Join b 0 xs.length (xs.map fun x=>ByteArray.mk x.toArray) ⟨#[]⟩ w
  (fun j x hx=>by
   rw [Nat.zero_add];refine hc.at_ j ?_;rw [List.getElem?_map] at hx
   cases hxj:xs[j]? with
   | none=>rw [hxj] at hx; cases hx
   | some y=>rw [hxj] at hx; cases hx; simp [hxj]) hc.lt (by simp; omega) (by simp) (by
   rw [List.map_map];rw [join_flat];exact hl)
 rw [List.length_map] at hj;have e:Lib.join ((xs.map fun x=>ByteArray.mk x.toArray).map (·.data.toList)) (ByteArray.mk #[]).data.toList=xs.flatten:=(by rw [List.map_map]; exact join_flat xs);rw [e] at hj;have HJ:=Lib.hid hj;clear hj e;go_enter Tryz.func122,Tryz.ntmps122
 go_wp2_with fail
 refine (HJ.out).mono ?_;rintro e w1 ⟨rfl,hb⟩;have B:=Lib.hid hb;clear hb;go_wp2
 go_ret
 exact ⟨rfl,B.out⟩
theorem escape_any (l:List UInt8) (hl:l.length≤100000) (m:Int) (w:World) (hm:w.cell? ⟨4,0,none⟩=some (.int .i64 m)) :
  Calls Tryz.prog 124 #[.string ⟨l.toArray⟩] w fun e w'=>e=.returned (.string ⟨(esc l).toArray⟩)∧Below w.heap.size w w':=by
 have hc:Lib.countB ⟨l.toArray⟩ ⟨#[39]⟩≤l.length:=by
  have h:=Lib.countB_mul_le ⟨#[39]⟩ (by decide) _ ⟨l.toArray⟩ (Nat.le_refl _);have e1:(ByteArray.mk #[39]).size=1:=rfl;have e2:(ByteArray.mk l.toArray).size=l.length:=(by simp [ByteArray.size]);rw [e1,e2] at h;omega
 have HR:=Lib.hid (Tryz.strings_ReplaceAll ⟨l.toArray⟩ ⟨#[39]⟩ ⟨#[39,39]⟩ m w (by show l.toArray.size < _; simp; omega) hm (by decide) (by show l.toArray.size+_ * 2≤_; simp; omega));have E:Hid (replaceAll (ByteArray.mk l.toArray).data.toList (ByteArray.mk #[39]).data.toList (ByteArray.mk #[39,39]).data.toList=esc l):=replAll_esc l;clear hc;go_enter Tryz.func124,Tryz.ntmps124
 go_wp2_with fail
 refine HR.out.mono ?_;rw [E.out];rintro e w1 ⟨rfl,hb⟩;have B:=Lib.hid hb;clear hb;go_wp2
 go_ret
 exact ⟨rfl,B.out⟩
end Go.Proofs.YtcpofeehpijbcaaGreatDoor
import Derived.Test.YtcpofeehpijbcaaGreatDoorCd5
namespace Go.Proofs.YtcpofeehpijbcaaGreatDoor
open Go.RowKit Go.Lib Go.Shelf
attribute [local go_sem ↓] Go.wp_at_zero Go.wp_at_succ
theorem suf_end (l:List UInt8):hasSuffix l [32]=endB l:=by
 unfold hasSuffix endB;rw [Bool.eq_iff_iff,List.isSuffixOf_iff_suffix];constructor
 ·rintro ⟨a,rfl⟩;simp
 ·intro h;have h2:l.getLast? = some 32:=(by simpa using h);obtain ⟨a,rfl⟩:=List.getLast?_eq_some_iff.1 h2;exact ⟨a,rfl⟩
theorem hsuf_any (l:List UInt8) (hl:l.length≤281474976710656) (w:World) :
  Calls Tryz.prog 87 #[.string ⟨l.toArray⟩,.string ⟨#[32]⟩] w fun e w'=>e=.returned (.bool (endB l))∧Below w.heap.size w w':=by
 have h:=Tryz.strings_HasSuffix ⟨l.toArray⟩ ⟨#[32]⟩ w (by show l.toArray.size≤_; simp; omega);refine h.mono ?_;rintro e w' ⟨rfl,rfl⟩;exact ⟨by show Ending.returned (.bool (hasSuffix l [32]))=_; rw [suf_end],Below.refl _ _⟩
theorem trim_any' (l:List UInt8) (hl:l.length≤281474976710656) (w:World) :
  Calls Tryz.prog 91 #[.string ⟨l.toArray⟩,.string ⟨#[32]⟩] w fun e w'=>e=.returned (.string ⟨(trimB l 32).toArray⟩)∧Below w.heap.size w w':=by
 have h:=Tryz.strings_Trim_one ⟨l.toArray⟩ 32 (by decide) w (by show l.toArray.size≤_; simp; omega);refine h.mono ?_;rintro e w' ⟨rfl,rfl | rfl⟩
 ·exact ⟨rfl,Below.refl _ _⟩
 ·exact ⟨rfl,(Below.refl _ _).drew⟩
theorem prt_app (a b:List UInt8):prt (a ++ b)=(prt a && prt b):=by unfold prt; rw [List.all_append]
theorem BuilderAt.below_ {T e:TypeId} {B b:Nat} {p:Value} {bs:List Value} {W W':World} (h:Lib.BuilderAt T e B b p bs W) (hb:Below W.heap.size W W'):Lib.BuilderAt T e B b p bs W':=by
 have hlt:=h.lt;obtain ⟨hB,v,hv,hown,hne⟩:=h;exact ⟨hB,v,(hb.block b hlt).trans hv,hown.kept (row:=none) ⟨hb.os,hb.tape,hb.output,hb.size,fun k hk _=>hb.block k hk⟩ (Classical.em _),hne⟩
theorem IsBuilder.below_ {T e:TypeId} {B b:Nat} {bs:List Value} {W W':World} (h:Lib.IsBuilder T e B b bs W) (hb:Below W.heap.size W W'):Lib.IsBuilder T e B b bs W':=
 h.elim (fun x=>.inl (BuilderAt.below_ x hb)) (fun x=>.inr (BuilderAt.below_ x hb))
theorem strCells_mk (l:List UInt8):Lib.strCells ⟨l.toArray⟩=Lib.byteCells l:=rfl
theorem byteCells_app (a b:List UInt8):Lib.byteCells (a ++ b)=Lib.byteCells a ++ Lib.byteCells b:=by unfold Lib.byteCells; rw [List.map_append]
theorem byteCells_len (a:List UInt8):(Lib.byteCells a).length=a.length:=by unfold Lib.byteCells; rw [List.length_map]
theorem flat_step {α β:Type} (f:α→List β) (l:List α) (k:Nat) (hk:k < l.length):(l.take (k+1)).flatMap f=(l.take k).flatMap f ++ f (l[k]'hk):=by
 rw [← List.take_append_getElem hk,List.flatMap_append]; simp
theorem flat_le {α β:Type} (f:α→List β) (l:List α) (k:Nat):((l.take k).flatMap f).length≤(l.flatMap f).length:=by
 conv=>rhs; rw [← List.take_append_drop k l,List.flatMap_append,List.length_append]
 omega
theorem bW_any (B b:Nat) (a s:List UInt8) (w:World) (h:Lib.IsBuilder 114 5 B b (Lib.byteCells a) w) (hl:a.length+s.length≤140737488355328) (hB:B≤w.heap.size) :
  Calls Tryz.prog 83 #[.pointer (some ⟨b,0,none⟩),.string ⟨s.toArray⟩] w fun e w'=>e=.returned (.tuple #[.int .i64 s.length,.nilIface])∧Lib.IsBuilder 114 5 B b (Lib.byteCells (a ++ s)) w'∧Below B w w':=by
 have hsz:(ByteArray.mk s.toArray).size=s.length:=(by simp [ByteArray.size]);refine (bWrite_any B b (Lib.byteCells a) ⟨s.toArray⟩ w h (by rw [byteCells_len,hsz]; exact hl) hB).mono ?_;rintro e w' ⟨rfl,h1,h2⟩;rw [strCells_mk,← byteCells_app] at h1;exact ⟨by rw [hsz],h1,h2⟩
end Go.Proofs.YtcpofeehpijbcaaGreatDoor
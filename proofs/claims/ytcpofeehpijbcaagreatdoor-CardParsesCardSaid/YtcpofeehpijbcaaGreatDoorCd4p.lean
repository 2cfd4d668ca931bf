import Derived.Test.YtcpofeehpijbcaaGreatDoorCd3
namespace Go.Proofs.YtcpofeehpijbcaaGreatDoor
open Go.RowKit Go.Lib Go.Shelf
attribute [local go_sem ↓] Go.wp_at_zero Go.wp_at_succ
theorem suf_end (l:List UInt8):hasSuffix l [32]=endB l:=by
 unfold hasSuffix endB;rw [Bool.eq_iff_iff,List.isSuffixOf_iff_suffix];constructor
 ·rintro ⟨a,rfl⟩;simp
 ·intro h;have h2:l.getLast? = some 32:=(by simpa using h);obtain ⟨a,rfl⟩:=List.getLast?_eq_some_iff.1 h2;exact ⟨a,rfl⟩
theorem hsuf_any (l:List UInt8) (hl:l.length≤281474976710656) (w:World) :
  Calls Tryz.prog 87 #[.string ⟨l.toArray⟩,.string ⟨#[32]⟩] w fun e w'=>e=.returned (.bool (endB l))∧Below w.heap.size w w':=by
 have h:=Tryz.strings_HasSuffix ⟨l.toArray⟩ ⟨#[32]⟩ w (by show l.toArray.size≤_; simp; omega);refine h.mono ?_;rintro e w' ⟨rfl,rfl⟩;exact ⟨by show Ending.returned (.bool (hasSuffix l [32]))=_; rw [suf_end],Below.refl _ _⟩
theorem trim_any' (l:List UInt8) (hl:l.length≤281474976710656) (w:World) :
  Calls Tryz.prog 91 #[.string ⟨l.toArray⟩,.string ⟨#[32]⟩] w fun e w'=>e=.returned (.string ⟨(trimB l 32).toArray⟩)∧Below w.heap.size w w':=by
 have h:=Tryz.strings_Trim_one ⟨l.toArray⟩ 32 (by decide) w (by show l.toArray.size≤_; simp; omega);refine h.mono ?_;rintro e w' ⟨rfl,rfl | rfl⟩
 ·exact ⟨rfl,Below.refl _ _⟩
 ·exact ⟨rfl,(Below.refl _ _).drew⟩
theorem prt_app (a b:List UInt8):prt (a ++ b)=(prt a && prt b):=by unfold prt; rw [List.all_append]
end Go.Proofs.YtcpofeehpijbcaaGreatDoor
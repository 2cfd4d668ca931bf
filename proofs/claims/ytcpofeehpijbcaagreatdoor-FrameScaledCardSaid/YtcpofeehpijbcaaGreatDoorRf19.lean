import Derived.Test.YtcpofeehpijbcaaGreatDoorRf18
import Derived.Test.YtcpofeehpijbcaaGreatDoorMg16
namespace Go.Proofs.YtcpofeehpijbcaaGreatDoor
open Go.RowKit Go.Lib Go.Shelf
def sBS:List UInt8:=[66,83,67,65,76,69]
def sBZ:List UInt8:=[66,90,69,82,79]
def bsC (n:Int):CD:=⟨sBS,3,false,n,0,[],[]⟩
def bzC (n:Int):CD:=⟨sBZ,3,false,n,0,[],[]⟩
theorem chk_num {k:List UInt8} {n:Int} (h1:wrdB k=true) (h2:remB k=false) (h3:(k == sCON)=false) (h4:(k == sEND)=false) (n1 : -9223372036854775808≤n) (n2:n≤9223372036854775807):chkC ⟨k,3,false,n,0,[],[]⟩=true:=by
 have hb:(q0o ⟨k,3,false,n,0,[],[]⟩).length≤70:=by
  have e:q0o ⟨k,3,false,n,0,[],[]⟩=padL (itoa n) 20:=rfl;have h:=itoa_length_le n n1 n2;rw [e,padL_len];omega
 have e4:chkC4 ⟨k,3,false,n,0,[],[]⟩=true:=by
  unfold chkC4;rw [decide_eq_false (by omega)];rfl
 have e3:chkC3 ⟨k,3,false,n,0,[],[]⟩=true:=by
  unfold chkC3;dsimp only;rw [h1,h2,h3,h4];rfl
 have e1:chkC1 ⟨k,3,false,n,0,[],[]⟩=true:=by
  have e:q0x ⟨k,3,false,n,0,[],[]⟩=false:=(by simp [q0x]);unfold chkC1;rw [e];rfl
 unfold chkC;rw [e1,e3,e4];rfl
theorem chk_bs {n:Int} (n1 : -9223372036854775808≤n) (n2:n≤9223372036854775807):chkC (bsC n)=true:=chk_num (by decide) (by decide) (by decide) (by decide) n1 n2
theorem chk_bz {n:Int} (n1 : -9223372036854775808≤n) (n2:n≤9223372036854775807):chkC (bzC n)=true:=chk_num (by decide) (by decide) (by decide) (by decide) n1 n2
theorem ok_bs {n:Int} (n1 : -9223372036854775808≤n) (n2:n≤9223372036854775807):OkG (bsC n):=⟨⟨by simp [bsC],n1,n2,by simp [bsC],by simp [bsC],by simp [bsC,sBS],by simp [bsC],by simp [bsC]⟩,by simp [bsC],by simp [bsC]⟩
theorem ok_bz {n:Int} (n1 : -9223372036854775808≤n) (n2:n≤9223372036854775807):OkG (bzC n):=⟨⟨by simp [bzC],n1,n2,by simp [bzC],by simp [bzC],by simp [bzC,sBZ],by simp [bzC],by simp [bzC]⟩,by simp [bzC],by simp [bzC]⟩
theorem vr_scaled {b:Int} {sh raw:List Int} {cs:List CD} {s z:Int} (hv:VR b sh raw cs) (hn:cs.length≤100) (s1 : -9223372036854775808≤s) (s2:s≤9223372036854775807) (z1 : -9223372036854775808≤z) (z2:z≤9223372036854775807):VR b sh raw (bsC s :: bzC z :: cs):=
 ⟨hv.bw,hv.ok,hv.len,by simp only [List.length_cons]; omega,hv.fit,fun x hx=>by
  rcases List.mem_cons.1 hx with rfl | hx
  ·exact ⟨chk_bs s1 s2,by show resB sBS=false; decide⟩
  ·rcases List.mem_cons.1 hx with rfl | hx
   ·exact ⟨chk_bz z1 z2,by show resB sBZ=false; decide⟩
   ·exact hv.all x hx⟩
theorem fvalue_scaled (b:Int) (sh raw:List Int) (cs cs2:List CD) (A1 A2 A3:Option Addr) (B c1 c2 c3:Nat) (s z:Int) (hcs:cs2=bsC s :: bzC z :: cs) (w:World) (h1:SlI w B A1 sh c1) (h2:SlI w B A2 raw c2) (h3:SlG w B A3 cs2 c3) (hv:VR b sh raw cs) (hn:cs.length≤100) (hE:Env w) (i:Nat) (hi:i < raw.length) (s1 : -9223372036854775808≤s) (s2:s≤9223372036854775807) (z1 : -9223372036854775808≤z) (z2:z≤9223372036854775807) (x:Int) (hx:raw[i]=x) :
  Calls Tryz.prog 27 #[.agg #[.int .i64 b,.slice A1 sh.length c1,.slice A2 raw.length c2,.slice A3 cs2.length c3],.int .i64 i] w (FRes (frQ ((x:Rat) * s+z),0) w):=by
 subst hcs hx
 exact fvalue_walk b sh raw _ A1 A2 A3 B c1 c2 c3 w h1 h2 h3 (vr_scaled hv hn s1 s2 z1 z2) hE i hi s z s1 s2 z1 z2
  (fun W hW=>fconst_found _ sBS sBS [] [] false s 1 0 (by simp) (fnd_some (k:=0) (by simp) (fun j _ h=>by omega) rfl) rfl (chk_bs s1 s2) A3 B c3 W (h3.below hW) (hE.keep hW))
  (fun W hW=>fconst_found _ sBZ sBZ [] [] false z 0 1 (by simp) (fnd_some (k:=1) (by simp) (fun j h hj=>by obtain rfl:j=0:=(by omega); rfl) rfl) rfl (chk_bz z1 z2) A3 B c3 W (h3.below hW) (hE.keep hW))
theorem app_scaled (g:Nat) (cs cs2:List CD) (s z:Int) (hcs:cs2=bsC s :: bzC z :: cs) (B:Nat) (A:Option Addr) (c:Nat) (w:World) (hk:BlkV w g 31 #[.string ⟨#[66,83,67,65,76,69]⟩,.int .u8 3,.bool false,.int .i64 s,.int .i64 0,.string ⟨#[]⟩,.string ⟨#[]⟩,.string ⟨#[66,90,69,82,79]⟩,.int .u8 3,.bool false,.int .i64 z,.int .i64 0,.string ⟨#[]⟩,.string ⟨#[]⟩]) (hs:SlG w B A cs c) (hl:cs.length≤100) (s1 : -9223372036854775808≤s) (s2:s≤9223372036854775807) (z1 : -9223372036854775808≤z) (z2:z≤9223372036854775807) :
  ∃ A' c' w',(∀ ty,(Builtin.append_ #[22,22] ty #[.slice (some ⟨g,0,none⟩) 2 2,.slice A cs.length c]).run Tryz.prog w=.ok (.slice A' cs2.length c') w')∧SlG w' w'.heap.size A' cs2 c'∧Below w.heap.size w w':=by
 subst hcs
 exact app_cards0 g [bsC s,bzC z] B A cs c w (RdV.of_blk (vs:=[bsC s,bzC z].flatMap CD.cells) hk).here (fun x hx=>by
  rcases List.mem_cons.1 hx with rfl | hx
  ·exact ok_bs s1 s2
  ·rw [List.mem_singleton.1 hx]; exact ok_bz z1 z2) hs (by simp only [List.length_cons,List.length_nil]; omega)
theorem SlY.more {w:World} {B B':Nat} {A:Option Addr} {cs:List CD} {c:Nat} (h:SlY w B A cs c) (hB:B≤B'):SlY w B' A cs c:=⟨h.rd.more hB,h.all,h.le,h.len⟩
theorem SlG.here {w:World} {B:Nat} {A:Option Addr} {cs:List CD} {c:Nat} (h:SlG w B A cs c):SlG w w.heap.size A cs c:=⟨h.rd.here,h.all,h.le,h.len⟩
theorem SlG.setV {w:World} {B:Nat} {A:Option Addr} {cs:List CD} {c:Nat} (h:SlG w B A cs c) {p:Addr} {A':Option Addr} {n c':Nat} (q:w.cell? p=some (.slice A' n c')) (u:Value):SlG (w.setCell p u) B A cs c:=
 ⟨h.rd.setNe q (fun hm=>by
  obtain ⟨x,-,hx⟩:=List.mem_flatMap.1 hm;simp [CD.cells] at hx) u,h.all,h.le,h.len⟩
theorem SlI.setV {w:World} {B:Nat} {A:Option Addr} {l:List Int} {c:Nat} (h:SlI w B A l c) {p:Addr} {A':Option Addr} {n c':Nat} (q:w.cell? p=some (.slice A' n c')) (u:Value):SlI (w.setCell p u) B A l c:=
 ⟨h.rd.setNe q (fun hm=>by simp [cI] at hm) u,h.lim,h.le,h.len⟩
structure FB (w:World) (g:Nat) (q:Rat) (A:Option Addr) (c:Nat) (B:Option Addr) (d:Nat):Prop where
 k:BlkV w g 43 #[.bool (frQ q).1.1,.slice A (frQ q).1.2.length c,.bool (frQ q).2.1,.slice B (frQ q).2.2.length d]
 s:Sl w A (frQ q).1.2 c
 t:Sl w B (frQ q).2.2 d
theorem FB.keep {w w':World} {g:Nat} {q:Rat} {A:Option Addr} {c:Nat} {B:Option Addr} {d:Nat} (h:FB w g q A c B d) (hb:Below w.heap.size w w'):FB w' g q A c B d:=⟨h.k.keep hb,h.s.below hb,h.t.below hb⟩
theorem FB.fresh {w:World} {q:Rat} {A:Option Addr} {c:Nat} {B:Option Addr} {d:Nat} (s:Sl w A (frQ q).1.2 c) (t:Sl w B (frQ q).2.2 d):FB (w.alloc (.cells #[.bool (frQ q).1.1,.slice A (frQ q).1.2.length c,.bool (frQ q).2.1,.slice B (frQ q).2.2.length d] 43)) w.heap.size q A c B d:=⟨BlkV.fresh rfl _ _,s.alloc _,t.alloc _⟩
theorem few_val {n s z:Int} (h1 : -9223372036854775808≤n) (h2:n≤9223372036854775807) (s1 : -9223372036854775808≤s) (s2:s≤9223372036854775807) (z1 : -9223372036854775808≤z) (z2:z≤9223372036854775807):Few 7 ((n:Rat) * s+z):=(q_add (kfew_mul h1 h2 s1 s2) (kfew z1 z2) (by decide)).2
theorem few_dif {n s:Int} (h1 : -9223372036854775808≤n) (h2:n≤9223372036854775807) (s1 : -9223372036854775808≤s) (s2:s≤9223372036854775807):Few 5 ((n:Rat) - s):=(q_sub (kfew h1 h2) (kfew s1 s2) (by decide)).2
theorem fsameQ_any (p q:Rat) (h:p=q) (A1 B1 A2 B2:Option Addr) (c1 d1 c2 d2:Nat) (w:World) (s1:Sl w A1 (frQ p).1.2 c1) (t1:Sl w B1 (frQ p).2.2 d1) (s2:Sl w A2 (frQ q).1.2 c2) (t2:Sl w B2 (frQ q).2.2 d2) :
  Calls Tryz.prog 30 #[.agg #[.bool (frQ p).1.1,.slice A1 (frQ p).1.2.length c1,.bool (frQ p).2.1,.slice B1 (frQ p).2.2.length d1],.agg #[.bool (frQ q).1.1,.slice A2 (frQ q).1.2.length c2,.bool (frQ q).2.1,.slice B2 (frQ q).2.2.length d2]] w fun e w'=>e=.returned (.bool true)∧Below w.heap.size w w':=by
 subst h;have h:=fsameF_any (frQ p).1.1 (frQ p).2.1 (frQ p).1.1 (frQ p).2.1 A1 B1 A2 B2 _ _ _ _ c1 d1 c2 d2 w s1 t1 s2 t2;rwa [show sameB (frQ p).1.1 (frQ p).1.2 (frQ p).1.1 (frQ p).1.2=true by simp [sameB],show sameB (frQ p).2.1 (frQ p).2.2 (frQ p).2.1 (frQ p).2.2=true by simp [sameB]] at h
end Go.Proofs.YtcpofeehpijbcaaGreatDoor
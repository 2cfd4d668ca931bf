import Derived.Test.YtcpofeehpijbcaaGreatDoorMg5
import Derived.Test.YtcpofeehpijbcaaGreatDoorCd4
namespace Go.Proofs.YtcpofeehpijbcaaGreatDoor
open Go.RowKit Go.Lib Go.Shelf
attribute [local go_sem ↓] Go.wp_at_zero Go.wp_at_succ
theorem szR_okSh {l:List Int} (h:0≤szR l):okSh l=true:=by
 unfold szR at h;by_cases h0:l=[]
 ·rw [h0]; rfl
 ·rw [if_neg h0] at h
  cases hk:okSh l with
  | true=>rfl
  | false=>rw [hk,if_neg (by decide)] at h; omega
structure VR (b:Int) (sh raw:List Int) (cs:List CD):Prop where
 bw:b=8∨b=16∨b=32∨b=64
 ok:okSh sh=true
 len:(raw.length:Int)=szR sh
 n:cs.length≤150
 fit:∀ x∈raw,fitK b x=true
 all:∀ x∈cs,chkC x=true∧resB x.k=false
theorem VR.of {b:Int} {sh raw:List Int} {cs:List CD} (h:chkR b sh raw cs=true):VR b sh raw cs:=by
 unfold chkR chkR1 at h;simp only [Bool.and_eq_true,Bool.or_eq_true,beq_iff_eq,decide_eq_true_eq] at h;obtain ⟨⟨⟨h1,h2⟩,h3,h4⟩,h5,h6⟩:=h;refine ⟨by rcases h1 with ((h | h) | h) | h <;> simp [h],szR_okSh h2,h3,h4,List.all_eq_true.1 h5,fun x hx=>?_⟩;have h7:=List.all_eq_true.1 h6 x hx;unfold okK9 at h7;simpa using h7
structure FrC (w:World) (B bb q:Nat) (b:Int) (sh raw:List Int) (cs:List CD) (A1 A2 A3:Option Addr) (c1 c2 c3:Nat):Prop where
 lt:bb < B
 f0:w.cell? ⟨bb,q,none⟩=some (.int .i64 b)
 f1:w.cell? ⟨bb,q+1,none⟩=some (.slice A1 sh.length c1)
 f2:w.cell? ⟨bb,q+2,none⟩=some (.slice A2 raw.length c2)
 f3:w.cell? ⟨bb,q+3,none⟩=some (.slice A3 cs.length c3)
 h1:SlI w B A1 sh c1
 h2:SlI w B A2 raw c2
 h3:SlY w B A3 cs c3
theorem FrC.below {w w':World} {B bb q:Nat} {b:Int} {sh raw:List Int} {cs:List CD} {A1 A2 A3:Option Addr} {c1 c2 c3:Nat} (h:FrC w B bb q b sh raw cs A1 A2 A3 c1 c2 c3) (hb:Below w.heap.size w w'):FrC w' B bb q b sh raw cs A1 A2 A3 c1 c2 c3:=
 ⟨h.lt,q0b hb h.f0,q0b hb h.f1,q0b hb h.f2,q0b hb h.f3,h.h1.below hb,h.h2.below hb,h.h3.below hb⟩
end Go.Proofs.YtcpofeehpijbcaaGreatDoor
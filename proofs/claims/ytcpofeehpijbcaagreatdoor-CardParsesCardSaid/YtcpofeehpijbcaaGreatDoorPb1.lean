import Derived.Test.YtcpofeehpijbcaaGreatDoorPa7
import Derived.Lib.LazyBuf
namespace Go.Proofs.YtcpofeehpijbcaaGreatDoor
open Go.RowKit Go.Lib Go.Shelf
attribute [local go_sem ↓] Go.wp_at_zero Go.wp_at_succ
theorem app_cardsR (ty B0 B:Nat) (A:Option Addr) (cs:List CD) (c:Nat) (v:Value) (n:Nat) (xs:List Value) (w:World) (hs:RdV w B A (cs.flatMap CD.cells)) (ho:w.ownsRow B0 31 7 v n xs) (hn:n+cs.length≤1000000) (hB:B0≤w.heap.size) :
  ∃ v' w',(Builtin.append_ #[22,22] ty #[v,.slice A cs.length c]).run Tryz.prog w=.ok v' w'∧w'.ownsRow B0 31 7 v' (n+cs.length) (xs ++ cs.flatMap CD.cells)∧(∀ B',B'≤B0→Below B' w w'):=by
 obtain ⟨i,z,hi,hz,hzs,hsz,hby⟩:=infoC
 cases cs with
 | nil=>
  have hr:(Builtin.append_ #[22,22] ty #[v,.slice A 0 c]).run Tryz.prog w=.ok v w:=by
   have hsrc:Src Tryz.prog i.size 22 (.slice A 0 c) 0 [] w:=by
    cases A with
    | none=>exact Src.ofNil w Tryz.underlying22 c
    | some a=>exact Src.ofSlice w Tryz.underlying22 a 0 c [] (by simp) (fun j u h=>by simp at h) (fun u h=>by cases h)
   rcases ho.2 with ⟨rfl,rfl⟩ | ⟨g,cap,cur,rfl,_,_,hnc,_⟩
   ·exact run_append_nothing w 22 22 ty 31 i Tryz.underlying22 hi none 0 0 (Nat.le_refl _) _ hsrc
   ·exact run_append_nothing w 22 22 ty 31 i Tryz.underlying22 hi _ n cap hnc _ hsrc
  refine ⟨v,w,hr,?_,fun B' _=>Below.refl _ _⟩;simpa using ho
 | cons x l=>
  obtain ⟨b,q,rfl,-,hc⟩:=hs (by rw [cds7]; simp);obtain ⟨v',w',hr,ho',hg,-⟩:=run_append_own (P:=Tryz.prog) w B0 22 ty 31 i z 7 72 Tryz.underlying22 hi hz hsz hby hzs (by omega) v n xs ho ⟨b,q,none⟩ (x :: l).length c _ (cds7 _) (fun j u hu=>by rw [Addr.add_lit]; exact hc j u hu) (one7 _) (by unfold maxLen; omega) (by omega) hB;refine ⟨v',w',hr,ho',fun B' hB'=>?_⟩;exact (Below.refl _ _).grown hg (by omega) (fun k hk=>by have:=(World.ownsRow.lt ho k hk).1; omega)
end Go.Proofs.YtcpofeehpijbcaaGreatDoor
import Derived.Test.YtcpofeehpijbcaaGreatDoorMg2
import Derived.Test.YtcpofeehpijbcaaGreatDoorCd5
import Derived.Shelf.Spec.SlicesGrow
import Derived.Deep.Upon
namespace Go.Proofs.YtcpofeehpijbcaaGreatDoor
open Go.RowKit Go.Lib Go.Shelf
attribute [local go_sem ↓] Go.wp_at_zero Go.wp_at_succ
theorem infoC:∃ i z,Tryz.prog.info? 31 = some i∧i.zero=some z∧z.cells.size=7∧i.size=7∧i.bytes=72:=by
 have hm:(Tryz.prog.info? 31).map (fun i=>(i.zero.map (fun z=>z.cells.size),i.size,i.bytes))=some (some 7,7,72):=(by kernel_rfl);revert hm
 generalize Tryz.prog.info? 31 = I;intro hm
 cases I with
 | none=>cases hm
 | some i=>
  cases hz:i.zero with
  | none=>simp [hz] at hm
  | some z=>
   simp only [Option.map_some,hz,Option.some.injEq,Prod.mk.injEq] at hm;exact ⟨i,z,rfl,hz,hm⟩
theorem cells7 (c:CD):c.cells.length=7:=rfl
theorem cds7 (cs:List CD):(cs.flatMap CD.cells).length=cs.length * 7:=by
 induction cs with
 | nil=>rfl
 | cons x l ih=>rw [List.flatMap_cons,List.length_append,ih,cells7,List.length_cons]; omega
theorem one7 (cs:List CD):∀ u∈cs.flatMap CD.cells,u.oneCell'=true:=by
 intro u hu;obtain ⟨x,-,hx⟩:=List.mem_flatMap.1 hu;simp only [CD.cells,List.mem_cons,List.not_mem_nil,or_false] at hx;rcases hx with rfl | rfl | rfl | rfl | rfl | rfl | rfl <;> rfl
theorem app_cards (ty B0 B:Nat) (A:Option Addr) (cs:List CD) (c:Nat) (v:Value) (n:Nat) (xs:List Value) (w:World) (hs:SlC w B A cs c) (ho:w.ownsRow B0 31 7 v n xs) (hn:n+cs.length≤1000000) (hB:B0≤w.heap.size) :
  ∃ v' w',(Builtin.append_ #[22,22] ty #[v,.slice A cs.length c]).run Tryz.prog w=.ok v' w'∧w'.ownsRow B0 31 7 v' (n+cs.length) (xs ++ cs.flatMap CD.cells)∧(∀ B',B'≤B0→Below B' w w'):=by
 obtain ⟨i,z,hi,hz,hzs,hsz,hby⟩:=infoC
 cases cs with
 | nil=>
  have hr:(Builtin.append_ #[22,22] ty #[v,.slice A 0 c]).run Tryz.prog w=.ok v w:=by
   have hsrc:Src Tryz.prog i.size 22 (.slice A 0 c) 0 [] w:=by
    cases A with
    | none=>exact Src.ofNil w Tryz.underlying22 c
    | some a=>exact Src.ofSlice w Tryz.underlying22 a 0 c [] (by simp) (fun j u h=>by simp at h) (fun u h=>by cases h)
   rcases ho.2 with ⟨rfl,rfl⟩ | ⟨g,cap,cur,rfl,_,_,hnc,_⟩
   ·exact run_append_nothing w 22 22 ty 31 i Tryz.underlying22 hi none 0 0 (Nat.le_refl _) _ hsrc
   ·exact run_append_nothing w 22 22 ty 31 i Tryz.underlying22 hi _ n cap hnc _ hsrc
  refine ⟨v,w,hr,?_,fun B' _=>Below.refl _ _⟩;simpa using ho
 | cons x l=>
  obtain ⟨b,q,rfl,-,hc⟩:=hs.rd (by rw [cds7]; simp);obtain ⟨v',w',hr,ho',hg,-⟩:=run_append_own (P:=Tryz.prog) w B0 22 ty 31 i z 7 72 Tryz.underlying22 hi hz hsz hby hzs (by omega) v n xs ho ⟨b,q,none⟩ (x :: l).length c _ (cds7 _) (fun j u hu=>by rw [Addr.add_lit]; exact hc j u hu) (one7 _) (by unfold maxLen; omega) (by omega) hB;refine ⟨v',w',hr,ho',fun B' hB'=>?_⟩;exact (Below.refl _ _).grown hg (by omega) (fun k hk=>by have:=(World.ownsRow.lt ho k hk).1; omega)
structure SC where
 a:Option Addr
 c:Nat
 cs:List CD
def SC.val (x:SC):Value:=.slice x.a x.cs.length x.c
end Go.Proofs.YtcpofeehpijbcaaGreatDoor
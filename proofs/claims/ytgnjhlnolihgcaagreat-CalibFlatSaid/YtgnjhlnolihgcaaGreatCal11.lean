import Derived.Test.YtgnjhlnolihgcaaGreatRegI
import Derived.Test.YtgnjhlnolihgcaaGreatCal10
namespace Go.Proofs.YtgnjhlnolihgcaaGreat
open Go.RowKit
theorem capply_any (f1 f2 f3 f4:FD) (E D:Int) (B:Nat) (w:World) (ok1:OkD w B f1) (ok2:OkD w B f2) (ok3:OkD w B f3) (ok4:OkD w B f4) :
  Calls Tryz.prog 28 #[.agg #[.int .i64 f1.W,.int .i64 f1.H,.slice f1.A f1.l.length f1.c],.agg #[.int .i64 f2.W,.int .i64 f2.H,.slice f2.A f2.l.length f2.c],.agg #[.int .i64 f3.W,.int .i64 f3.H,.slice f3.A f3.l.length f3.c],.agg #[.int .i64 f4.W,.int .i64 f4.H,.slice f4.A f4.l.length f4.c],.int .i64 E,.int .i64 D] w (ApR (apOut f1 f2 f3 f4 E D) w):=by
 by_cases h1:f1.chk=0
 rotate_left
 ·rw [apOut_8 (.inl h1)]; exact cap8 f1 f2 f3 f4 E D B w ok1 ok2 ok3 ok4 (vchk_bad (f:=f1) (by simp) h1)
 by_cases h2:f2.chk=0
 rotate_left
 ·rw [apOut_8 (.inr (.inl h2))]; exact cap8 f1 f2 f3 f4 E D B w ok1 ok2 ok3 ok4 (vchk_bad (f:=f2) (by simp) h2)
 by_cases h3:f3.chk=0
 rotate_left
 ·rw [apOut_8 (.inr (.inr (.inl h3)))]; exact cap8 f1 f2 f3 f4 E D B w ok1 ok2 ok3 ok4 (vchk_bad (f:=f3) (by simp) h3)
 by_cases h4:f4.chk=0
 rotate_left
 ·rw [apOut_8 (.inr (.inr (.inr h4)))]; exact cap8 f1 f2 f3 f4 E D B w ok1 ok2 ok3 ok4 (vchk_bad (f:=f4) (by simp) h4)
 have hv:=vchk40 h1 h2 h3 h4;rcases Bool.eq_false_or_eq_true (aliB f1 f2) with a2 | a2
 rotate_left
 ·rw [apOut_2 h1 h2 h3 h4 (.inl a2)]; exact cap2_1 f1 f2 f3 f4 E D B w ok1 ok2 ok3 ok4 hv (by rw [ali4,a2]; simp)
 rcases Bool.eq_false_or_eq_true (aliB f1 f3) with a3 | a3
 rotate_left
 ·rw [apOut_2 h1 h2 h3 h4 (.inr (.inl a3))]; exact cap2_1 f1 f2 f3 f4 E D B w ok1 ok2 ok3 ok4 hv (by rw [ali4,a3]; simp)
 rcases Bool.eq_false_or_eq_true (aliB f1 f4) with a4 | a4
 rotate_left
 ·rw [apOut_2 h1 h2 h3 h4 (.inr (.inr (.inl a4)))]; exact cap2_1 f1 f2 f3 f4 E D B w ok1 ok2 ok3 ok4 hv (by rw [ali4,a4]; simp)
 have ha:alikeB f1 [f1,f2,f3,f4]=true:=(by rw [ali4,a2,a3,a4]; rfl);by_cases g0:E < 0
 ·rw [apOut_2 h1 h2 h3 h4 (.inr (.inr (.inr (.inl g0))))]; exact cap2_2 f1 f2 f3 f4 E D B w ok1 ok2 ok3 ok4 hv ha g0
 by_cases g1:1000000 < E
 ·rw [apOut_2 h1 h2 h3 h4 (.inr (.inr (.inr (.inr (.inl g1)))))]; exact cap2_3 f1 f2 f3 f4 E D B w ok1 ok2 ok3 ok4 hv ha g1
 by_cases g2:D < 1
 ·rw [apOut_2 h1 h2 h3 h4 (.inr (.inr (.inr (.inr (.inr (.inl g2))))))]; exact cap2_4 f1 f2 f3 f4 E D B w ok1 ok2 ok3 ok4 hv ha (by omega) (by omega) g2
 by_cases g3:1000000 < D
 ·rw [apOut_2 h1 h2 h3 h4 (.inr (.inr (.inr (.inr (.inr (.inr (g3)))))))]; exact cap2_5 f1 f2 f3 f4 E D B w ok1 ok2 ok3 ok4 hv ha (by omega) (by omega) g3
 have h:ApOk f1 f2 f3 f4 E D:=⟨h1,h2,h3,h4,a2,a3,a4,by omega,by omega,by omega,by omega⟩;rw [apOut_rest h];obtain ⟨W,H,A1,l1,c1⟩:=f1;obtain ⟨W2,H2,A2,l2,c2⟩:=f2;obtain ⟨W3,H3,A3,l3,c3⟩:=f3;obtain ⟨W4,H4,A4,l4,c4⟩:=f4;simp only [aliB,Bool.and_eq_true,decide_eq_true_eq] at a2 a3 a4;obtain ⟨rfl,rfl⟩:=a2;obtain ⟨rfl,rfl⟩:=a3;obtain ⟨rfl,rfl⟩:=a4;exact cap_main W H A1 A2 A3 A4 l1 l2 l3 l4 c1 c2 c3 c4 E D B w ok1 ok2 ok3 ok4 h
end Go.Proofs.YtgnjhlnolihgcaaGreat
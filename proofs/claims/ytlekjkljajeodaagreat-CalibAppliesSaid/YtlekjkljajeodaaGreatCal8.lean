/- The reference's Apply. -/
import Derived.Test.YtlekjkljajeodaaGreatCal7
namespace Go.Proofs.YtlekjkljajeodaaGreat
open Go.RowKit
theorem rapply_any (f1 f2 f3 f4 : FD) (E D : Int) (B : Nat) (w : World) (ok1 : OkD w B f1) (ok2 : OkD w B f2) (ok3 : OkD w B f3) (ok4 : OkD w B f4) :
    Calls Tryz.prog 13 #[.agg #[.int .i64 f1.W, .int .i64 f1.H, .slice f1.A f1.l.length f1.c], .agg #[.int .i64 f2.W, .int .i64 f2.H, .slice f2.A f2.l.length f2.c], .agg #[.int .i64 f3.W, .int .i64 f3.H, .slice f3.A f3.l.length f3.c], .agg #[.int .i64 f4.W, .int .i64 f4.H, .slice f4.A f4.l.length f4.c], .int .i64 E, .int .i64 D] w (ApR (apOut f1 f2 f3 f4 E D) w) := by
  by_cases h1 : f1.chk = 0
  rotate_left
  · rw [apOut_8 (.inl h1)]; exact rap8_1 f1 f2 f3 f4 E D B w ok1 ok2 ok3 ok4 h1
  by_cases h2 : f2.chk = 0
  rotate_left
  · rw [apOut_8 (.inr (.inl h2))]; exact rap8_2 f1 f2 f3 f4 E D B w ok1 ok2 ok3 ok4 h1 h2
  by_cases h3 : f3.chk = 0
  rotate_left
  · rw [apOut_8 (.inr (.inr (.inl h3)))]; exact rap8_3 f1 f2 f3 f4 E D B w ok1 ok2 ok3 ok4 h1 h2 h3
  by_cases h4 : f4.chk = 0
  rotate_left
  · rw [apOut_8 (.inr (.inr (.inr h4)))]; exact rap8_4 f1 f2 f3 f4 E D B w ok1 ok2 ok3 ok4 h1 h2 h3 h4
  rcases Bool.eq_false_or_eq_true (aliB f1 f2) with a2 | a2
  rotate_left
  · rw [apOut_2 h1 h2 h3 h4 (.inl a2)]; exact rap2_2 f1 f2 f3 f4 E D B w ok1 ok2 ok3 ok4 h1 h2 h3 h4 a2
  rcases Bool.eq_false_or_eq_true (aliB f1 f3) with a3 | a3
  rotate_left
  · rw [apOut_2 h1 h2 h3 h4 (.inr (.inl a3))]; exact rap2_3 f1 f2 f3 f4 E D B w ok1 ok2 ok3 ok4 h1 h2 h3 h4 a2 a3
  rcases Bool.eq_false_or_eq_true (aliB f1 f4) with a4 | a4
  rotate_left
  · rw [apOut_2 h1 h2 h3 h4 (.inr (.inr (.inl a4)))]; exact rap2_4 f1 f2 f3 f4 E D B w ok1 ok2 ok3 ok4 h1 h2 h3 h4 a2 a3 a4
  by_cases g0 : E < 0
  · rw [apOut_2 h1 h2 h3 h4 (.inr (.inr (.inr (.inl g0))))]; exact rap2_5 f1 f2 f3 f4 E D B w ok1 ok2 ok3 ok4 h1 h2 h3 h4 a2 a3 a4 g0
  by_cases g1 : 1000000 < E
  · rw [apOut_2 h1 h2 h3 h4 (.inr (.inr (.inr (.inr (.inl g1)))))]; exact rap2_6 f1 f2 f3 f4 E D B w ok1 ok2 ok3 ok4 h1 h2 h3 h4 a2 a3 a4 g1
  by_cases g2 : D < 1
  · rw [apOut_2 h1 h2 h3 h4 (.inr (.inr (.inr (.inr (.inr (.inl g2))))))]; exact rap2_7 f1 f2 f3 f4 E D B w ok1 ok2 ok3 ok4 h1 h2 h3 h4 a2 a3 a4 (by omega) (by omega) g2
  by_cases g3 : 1000000 < D
  · rw [apOut_2 h1 h2 h3 h4 (.inr (.inr (.inr (.inr (.inr (.inr g3))))))]; exact rap2_8 f1 f2 f3 f4 E D B w ok1 ok2 ok3 ok4 h1 h2 h3 h4 a2 a3 a4 (by omega) (by omega) g3
  rw [apOut_rest ⟨h1, h2, h3, h4, a2, a3, a4, by omega, by omega, by omega, by omega⟩]
  by_cases hn : cntP true f4.l = 0
  · rw [if_pos hn]; exact rap18 f1 f2 f3 f4 E D B w ok1 ok2 ok3 ok4 h1 h2 h3 h4 a2 a3 a4 (by omega) (by omega) (by omega) (by omega) hn
  rw [if_neg hn]
  obtain ⟨W, H, A1, l1, c1⟩ := f1
  obtain ⟨W2, H2, A2, l2, c2⟩ := f2
  obtain ⟨rfl, rfl⟩ : W = W2 ∧ H = H2 := by simpa [aliB] using a2
  obtain ⟨W3, H3, A3, l3, c3⟩ := f3
  obtain ⟨rfl, rfl⟩ : W = W3 ∧ H = H3 := by simpa [aliB] using a3
  obtain ⟨W4, H4, A4, l4, c4⟩ := f4
  obtain ⟨rfl, rfl⟩ : W = W4 ∧ H = H4 := by simpa [aliB] using a4
  exact rap_main _ _ A1 A2 A3 A4 l1 l2 l3 l4 c1 c2 c3 c4 E D B w ok1 ok2 ok3 ok4 ⟨h1, h2, h3, h4, a2, a3, a4, by omega, by omega, by omega, by omega⟩ hn

end Go.Proofs.YtlekjkljajeodaaGreat

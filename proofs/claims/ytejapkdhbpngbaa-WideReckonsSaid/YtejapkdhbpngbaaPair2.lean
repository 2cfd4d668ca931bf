/- The statement 'x, y := Twin(a), Twin(b)' in any order of its steps. -/
import Derived.Test.YtejapkdhbpngbaaInv
import Derived.Test.YtejapkdhbpngbaaTwin
namespace Go.Proofs.Ytejapkdhbpngbaa
open Go.RowKit

theorem wpOp_none {P : Program} {ops : Array Oper} {Q : Exit → Act → World → Prop} {i : Nat} {K : Act → World → Prop} {a : Act} {w : World} {o : Oper} (hi : ops[i]? = some o) (hg : o.guard = none)
    (h : Oper.wp P o a w K Q) : wpOp P ops Q i K a w := by
  refine wpOp_of hi ?_
  rw [if_pos (by simp [Region.wanted, hg])]
  exact h
theorem region_named {P : Program} {id : Nat} {ops : Array Oper} {Q : Exit → Act → World → Prop} {a : Act} {w : World} (hm : P.follows .mixedOrders = true)
    (h : wpAny P .any ops Q ops.size (Array.replicate ops.size false) a w.drew) : (Code.region id ops true).wp P Q a w := wp_region_any hm h
/-- An operation of the region: what it writes, what it does, what it waits for. -/
def OpIs (ops : Array Oper) (i : Nat) (d : Option Tmp) (op : Op) (waits : List Nat) : Prop :=
  ∃ o, ops[i]? = some o ∧ o.dst = d ∧ o.op = op ∧ o.guard = none ∧ ∀ k ∈ waits, ∃ e ∈ o.after, e.on = k ∧ Region.binds .any e = true
theorem OpIs.take {ops : Array Oper} {i : Nat} {d : Option Tmp} {op : Op} {ws : List Nat} (h : OpIs ops i d op ws) {l : Array Bool} (hr : i < ops.size ∧ l.getD i true = false ∧ ∀ o, ops[i]? = some o → ∀ e ∈ o.after, Region.binds .any e = true → l.getD e.on false = true) :
    l.getD i true = false ∧ (∀ k ∈ ws, l.getD k false = true) ∧ ∃ ty pos after, ops[i]? = some ⟨d, op, ty, pos, after, none⟩ := by
  obtain ⟨⟨dst, op', ty, pos, after, guard⟩, hi, rfl, rfl, hg, hw⟩ := h
  simp only at hg
  subst hg
  refine ⟨hr.2.1, fun k hk => ?_, ty, pos, after, hi⟩
  obtain ⟨e, he, rfl, hb⟩ := hw k hk
  exact hr.2.2 _ hi e he hb

theorem ev_raw {a : Act} {s : Nat} {x : Value} (ev : a.eval (.tmp s) = x) : a.tmps[s]?.getD undef = x := by rw [← ev, Act.eval, Array.getD_eq_getD_getElem?]
section
variable {K : Act → World → Prop} {Q : Exit → Act → World → Prop} {a : Act} {W : World} {d : Option Tmp} {ty : TypeId} {pos : String} {after : Array Edge} {s s' g : Nat} {n : Bool} {A : Option Addr} {m c : Nat}
theorem st_load (ev : a.eval (.tmp s) = .pointer (some ⟨g, 0, none⟩)) (hk : Cw W g n A m c) (h : K (a.put d (.agg #[.bool n, .slice A m c])) W) :
    Oper.wp Try.prog ⟨d, .load 24 (.tmp s), ty, pos, after, none⟩ a W K Q := by
  have q0 := hk.1
  have q1 := hk.2
  have e := ev_raw ev
  clear hk ev
  unfold Oper.wp
  go_simp
  exact h
theorem st_call {l : List Nat} (ev : a.eval (.tmp s) = .agg #[.bool n, .slice A l.length c]) (hs : Sl W A l c) (h : ∀ v A' c', Sl v A' l c' → Below W.heap.size W v → K (a.put d (.agg #[.bool n, .slice A' l.length c'])) v) :
    Oper.wp Try.prog ⟨d, .call { callee := .value (.func 24), args := #[.tmp s], argTypes := #[24] }, ty, pos, after, none⟩ a W K Q := by
  have e := ev_raw ev
  clear ev
  unfold Oper.wp
  go_simp
  refine (twin_any n A l c W hs).mono ?_
  rintro e v ⟨A', c', rfl, hs', hb⟩
  exact h v A' c' hs' hb
theorem st_alloc (h : K (a.put d (.pointer (some ⟨W.heap.size, 0, none⟩))) (W.alloc (.cells #[.bool false, .slice none 0 0] 24))) :
    Oper.wp Try.prog ⟨d, .alloc 24, ty, pos, after, none⟩ a W K Q := by
  unfold Oper.wp
  go_simp
  exact h
theorem st_store {n0 : Bool} {A0 : Option Addr} {m0 c0 : Nat} (ev : a.eval (.tmp s) = .pointer (some ⟨g, 0, none⟩)) (ev' : a.eval (.tmp s') = .agg #[.bool n, .slice A m c]) (hk : Cw W g n0 A0 m0 c0) (hf : Fw W g)
    (h : K a ((W.setCell ⟨g, 0, none⟩ (.bool n)).setCell ⟨g, 1, none⟩ (.slice A m c))) :
    Oper.wp Try.prog ⟨none, .store 24 (.tmp s) (.tmp s'), ty, pos, after, none⟩ a W K Q := by
  have q0 := hk.1
  have q1 := hk.2
  have f0 := hf.1
  have f1 := hf.2
  have e := ev_raw ev
  have e' := ev_raw ev'
  clear hk hf ev ev'
  unfold Oper.wp
  go_simp
  exact h
end
/-- What holds of the frame and the memory behind the steps done. -/
def PairI (a0 : Act) (w : World) (ga gb s1 s2 s3 s4 s5 s6 : Nat) (na nb : Bool) (A1 A2 : Option Addr) (la lb : List Nat) (ca cb : Nat) (l : Array Bool) (a : Act) (W : World) : Prop :=
  ∃ (d0 d1 d2 d3 d4 d5 d6 d7 : Bool) (u1 u2 u3 u4 u5 u6 : Value) (o5 o6 : Option (Nat × Bool × Option Addr × Nat × Nat)) (x1 x2 : Option (Option Addr × Nat)), l = #[d0, d1, d2, d3, d4, d5, d6, d7] ∧ a = put6 a0 s1 s2 s3 s4 s5 s6 u1 u2 u3 u4 u5 u6 ∧
    PI w (SAB ga na A1 la.length ca gb nb A2 lb.length cb) la lb na nb (.agg #[.bool na, .slice A1 la.length ca]) (.agg #[.bool nb, .slice A2 lb.length cb]) gb d0 d1 d2 d3 d4 d5 d6 d7 u1 u2 u3 u4 u5 u6 W o5 o6 x1 x2

set_option maxHeartbeats 400000 in
theorem region_pair {id : Nat} {ops : Array Oper} {Q : Exit → Act → World → Prop} {a0 : Act} {w W0 : World} {sa sb s1 s2 s3 s4 s5 s6 ga gb : Nat} {na nb : Bool} {A1 A2 : Option Addr} {la lb : List Nat} {ca cb : Nat}
    (hsz : ops.size = 8) (hord : ordered ops = true)
    (h0 : OpIs ops 0 (some s1) (.load 24 (.tmp sa)) [])
    (h1 : OpIs ops 1 (some s2) (.call { callee := .value (.func 24), args := #[.tmp s1], argTypes := #[24] }) [0])
    (h2 : OpIs ops 2 (some s3) (.load 24 (.tmp sb)) [])
    (h3 : OpIs ops 3 (some s4) (.call { callee := .value (.func 24), args := #[.tmp s3], argTypes := #[24] }) [2])
    (h4 : OpIs ops 4 (some s5) (.alloc 24) [])
    (h5 : OpIs ops 5 (some s6) (.alloc 24) [])
    (h6 : OpIs ops 6 none (.store 24 (.tmp s5) (.tmp s2)) [1, 4])
    (h7 : OpIs ops 7 none (.store 24 (.tmp s6) (.tmp s4)) [3, 5])
    (hsa : sa ≠ s1 ∧ sa ≠ s2 ∧ sa ≠ s3 ∧ sa ≠ s4 ∧ sa ≠ s5 ∧ sa ≠ s6) (hsb : sb ≠ s1 ∧ sb ≠ s2 ∧ sb ≠ s3 ∧ sb ≠ s4 ∧ sb ≠ s5 ∧ sb ≠ s6)
    (hd : [s1, s2, s3, s4, s5, s6].Nodup) (hs : ∀ s ∈ [s1, s2, s3, s4, s5, s6], s < a0.tmps.size)
    (hea : a0.eval (.tmp sa) = .pointer (some ⟨ga, 0, none⟩)) (heb : a0.eval (.tmp sb) = .pointer (some ⟨gb, 0, none⟩))
    (hs0 : put6 a0 s1 s2 s3 s4 s5 s6 undef undef undef undef undef undef = a0)
    (hSa : Sl w A1 la ca) (hSb : Sl w A2 lb cb) (hb : Below w.heap.size w W0) (hka : Cw W0 ga na A1 la.length ca) (hkb : Cw W0 gb nb A2 lb.length cb) (hab : ga ≤ gb) (hw : w.heap.size ≤ gb)
    (hQ : ∀ u1 u2 u3 u4 g5 g6 A5 c5 A6 c6 W, gb < g5 → gb < g6 → RS w (SAB ga na A1 la.length ca gb nb A2 lb.length cb) la lb (some (g5, na, A5, la.length, c5)) (some (g6, nb, A6, lb.length, c6)) (some (A5, c5)) (some (A6, c6)) W →
      Q .normal (put6 a0 s1 s2 s3 s4 s5 s6 u1 u2 u3 u4 (.pointer (some ⟨g5, 0, none⟩)) (.pointer (some ⟨g6, 0, none⟩))) W) :
    (Code.region id ops true).wp Try.prog Q a0 W0 := by
  refine region_named (by kernel_rfl) ?_
  have hd1 : (s2 ≠ s1 ∧ s3 ≠ s1 ∧ s4 ≠ s1 ∧ s5 ≠ s1 ∧ s6 ≠ s1) ∧ (s3 ≠ s2 ∧ s4 ≠ s2 ∧ s5 ≠ s2 ∧ s6 ≠ s2) ∧ (s4 ≠ s3 ∧ s5 ≠ s3 ∧ s6 ≠ s3) ∧ (s5 ≠ s4 ∧ s6 ≠ s4) ∧ s6 ≠ s5 := by
    simp at hd
    omega
  obtain ⟨⟨a1, a2, a3, a4, a5⟩, ⟨b2, b3, b4, b5⟩, ⟨c3, c4, c5⟩, ⟨e4, e5⟩, f5⟩ := hd1
  have hs1 := hs s1 (by simp)
  have hs2 := hs s2 (by simp)
  have hs3 := hs s3 (by simp)
  have hs4 := hs s4 (by simp)
  have hs5 := hs s5 (by simp)
  have hs6 := hs s6 (by simp)
  clear hs hd
  refine wpAny_inv (I := PairI a0 w ga gb s1 s2 s3 s4 s5 s6 na nb A1 A2 la lb ca cb) ?sz ?st ?en _ _ _ _ ?ct ?init
  case sz =>
    rintro l a W ⟨d0, d1, d2, d3, d4, d5, d6, d7, u1, u2, u3, u4, u5, u6, o5, o6, x1, x2, rfl, rfl, hI⟩
    rw [hsz]; rfl
  case ct => rw [hsz]; decide
  case init => exact ⟨false, false, false, false, false, false, false, false, undef, undef, undef, undef, undef, undef, none, none, none, none, by rw [hsz]; rfl, hs0.symm, PI.start hb.drew ⟨hka.drew, hkb.drew⟩⟩
  case en =>
    rintro l a W ⟨d0, d1, d2, d3, d4, d5, d6, d7, u1, u2, u3, u4, u5, u6, o5, o6, x1, x2, rfl, rfl, hI⟩ hr
    have hall := ready_nil (by rw [hsz]; rfl) hord hr
    rw [hsz] at hall
    obtain rfl : d4 = true := hall 4 (by decide)
    obtain rfl : d5 = true := hall 5 (by decide)
    obtain rfl : d6 = true := hall 6 (by decide)
    obtain rfl : d7 = true := hall 7 (by decide)
    obtain ⟨g5, g6, A5, k5, A6, k6, rfl, rfl, l5, l6, hR⟩ := hI.done
    exact hQ _ _ _ _ _ _ _ _ _ _ _ l5 l6 hR
  case st =>
    rintro l a W i ⟨d0, d1, d2, d3, d4, d5, d6, d7, u1, u2, u3, u4, u5, u6, o5, o6, x1, x2, rfl, rfl, hI⟩ hi
    have hr := ready_spec hi
    have h8 := hr.1
    rw [hsz] at h8
    have hc : i = 0 ∨ i = 1 ∨ i = 2 ∨ i = 3 ∨ i = 4 ∨ i = 5 ∨ i = 6 ∨ i = 7 := by omega
    clear hi h8
    rcases hc with rfl | rfl | rfl | rfl | rfl | rfl | rfl | rfl
    · obtain ⟨hd, hws, ty, pos, after, hi⟩ := h0.take hr
      obtain rfl : d0 = false := hd
      refine wpOp_none hi rfl ?_
      clear hr hws
      have e1 : (put6 a0 s1 s2 s3 s4 s5 s6 u1 u2 u3 u4 u5 u6).eval (.tmp sa) = .pointer (some ⟨ga, 0, none⟩) := (put6_ne hsa _ _ _ _ _ _).trans hea
      have e2 : Cw W ga na A1 la.length ca := hI.rs.ks.1
      have e3 : PairI a0 w ga gb s1 s2 s3 s4 s5 s6 na nb A1 A2 la lb ca cb (#[false, d1, d2, d3, d4, d5, d6, d7].setIfInBounds 0 true) ((put6 a0 s1 s2 s3 s4 s5 s6 u1 u2 u3 u4 u5 u6).put (some s1) (.agg #[.bool na, .slice A1 la.length ca])) W := ⟨true, d1, d2, d3, d4, d5, d6, d7, (.agg #[.bool na, .slice A1 la.length ca]), u2, u3, u4, u5, u6, o5, o6, x1, x2, rfl, put6_put1 a1 a2 a3 a4 a5 _ _ _ _ _ _ _, hI.load1⟩
      generalize put6 a0 s1 s2 s3 s4 s5 s6 u1 u2 u3 u4 u5 u6 = aa at *
      generalize PairI a0 w ga gb s1 s2 s3 s4 s5 s6 na nb A1 A2 la lb ca cb (#[false, d1, d2, d3, d4, d5, d6, d7].setIfInBounds 0 true) = KK at *
      exact st_load e1 e2 e3
    · obtain ⟨hd, hws, ty, pos, after, hi⟩ := h1.take hr
      obtain rfl : d1 = false := hd
      obtain rfl : d0 = true := hws 0 (by simp)
      obtain rfl := hI.p0 rfl
      obtain rfl : d6 = false := by
        cases d6 with
        | false => rfl
        | true => exact absurd (hI.n6 rfl) (by decide)
      refine wpOp_none hi rfl ?_
      clear hr hws
      have e1 : (put6 a0 s1 s2 s3 s4 s5 s6 (.agg #[.bool na, .slice A1 la.length ca]) u2 u3 u4 u5 u6).eval (.tmp s1) = (.agg #[.bool na, .slice A1 la.length ca]) := put6_ev1 a1 a2 a3 a4 a5 hs1 _ _ _ _ _ _
      have e2 : Sl W A1 la ca := hSa.below hI.rs.b
      have e3 : ∀ v A' c', Sl v A' la c' → Below W.heap.size W v → PairI a0 w ga gb s1 s2 s3 s4 s5 s6 na nb A1 A2 la lb ca cb (#[true, false, d2, d3, d4, d5, false, d7].setIfInBounds 1 true) ((put6 a0 s1 s2 s3 s4 s5 s6 (.agg #[.bool na, .slice A1 la.length ca]) u2 u3 u4 u5 u6).put (some s2) (.agg #[.bool na, .slice A' la.length c'])) v := fun v A' c' hs' hb' => ⟨true, true, d2, d3, d4, d5, false, d7, (.agg #[.bool na, .slice A1 la.length ca]), (.agg #[.bool na, .slice A' la.length c']), u3, u4, u5, u6, o5, o6, some (A', c'), x2, rfl, put6_put2 b2 b3 b4 b5 _ _ _ _ _ _ _, hI.call1 hb' hs'⟩
      generalize put6 a0 s1 s2 s3 s4 s5 s6 (.agg #[.bool na, .slice A1 la.length ca]) u2 u3 u4 u5 u6 = aa at *
      generalize PairI a0 w ga gb s1 s2 s3 s4 s5 s6 na nb A1 A2 la lb ca cb (#[true, false, d2, d3, d4, d5, false, d7].setIfInBounds 1 true) = KK at *
      exact st_call e1 e2 e3
    · obtain ⟨hd, hws, ty, pos, after, hi⟩ := h2.take hr
      obtain rfl : d2 = false := hd
      refine wpOp_none hi rfl ?_
      clear hr hws
      have e1 : (put6 a0 s1 s2 s3 s4 s5 s6 u1 u2 u3 u4 u5 u6).eval (.tmp sb) = .pointer (some ⟨gb, 0, none⟩) := (put6_ne hsb _ _ _ _ _ _).trans heb
      have e2 : Cw W gb nb A2 lb.length cb := hI.rs.ks.2
      have e3 : PairI a0 w ga gb s1 s2 s3 s4 s5 s6 na nb A1 A2 la lb ca cb (#[d0, d1, false, d3, d4, d5, d6, d7].setIfInBounds 2 true) ((put6 a0 s1 s2 s3 s4 s5 s6 u1 u2 u3 u4 u5 u6).put (some s3) (.agg #[.bool nb, .slice A2 lb.length cb])) W := ⟨d0, d1, true, d3, d4, d5, d6, d7, u1, u2, (.agg #[.bool nb, .slice A2 lb.length cb]), u4, u5, u6, o5, o6, x1, x2, rfl, put6_put3 c3 c4 c5 _ _ _ _ _ _ _, hI.load2⟩
      generalize put6 a0 s1 s2 s3 s4 s5 s6 u1 u2 u3 u4 u5 u6 = aa at *
      generalize PairI a0 w ga gb s1 s2 s3 s4 s5 s6 na nb A1 A2 la lb ca cb (#[d0, d1, false, d3, d4, d5, d6, d7].setIfInBounds 2 true) = KK at *
      exact st_load e1 e2 e3
    · obtain ⟨hd, hws, ty, pos, after, hi⟩ := h3.take hr
      obtain rfl : d3 = false := hd
      obtain rfl : d2 = true := hws 2 (by simp)
      obtain rfl := hI.p2 rfl
      obtain rfl : d7 = false := by
        cases d7 with
        | false => rfl
        | true => exact absurd (hI.n7 rfl) (by decide)
      refine wpOp_none hi rfl ?_
      clear hr hws
      have e1 : (put6 a0 s1 s2 s3 s4 s5 s6 u1 u2 (.agg #[.bool nb, .slice A2 lb.length cb]) u4 u5 u6).eval (.tmp s3) = (.agg #[.bool nb, .slice A2 lb.length cb]) := put6_ev3 c3 c4 c5 hs3 _ _ _ _ _ _
      have e2 : Sl W A2 lb cb := hSb.below hI.rs.b
      have e3 : ∀ v A' c', Sl v A' lb c' → Below W.heap.size W v → PairI a0 w ga gb s1 s2 s3 s4 s5 s6 na nb A1 A2 la lb ca cb (#[d0, d1, true, false, d4, d5, d6, false].setIfInBounds 3 true) ((put6 a0 s1 s2 s3 s4 s5 s6 u1 u2 (.agg #[.bool nb, .slice A2 lb.length cb]) u4 u5 u6).put (some s4) (.agg #[.bool nb, .slice A' lb.length c'])) v := fun v A' c' hs' hb' => ⟨d0, d1, true, true, d4, d5, d6, false, u1, u2, (.agg #[.bool nb, .slice A2 lb.length cb]), (.agg #[.bool nb, .slice A' lb.length c']), u5, u6, o5, o6, x1, some (A', c'), rfl, put6_put4 e4 e5 _ _ _ _ _ _ _, hI.call2 hb' hs'⟩
      generalize put6 a0 s1 s2 s3 s4 s5 s6 u1 u2 (.agg #[.bool nb, .slice A2 lb.length cb]) u4 u5 u6 = aa at *
      generalize PairI a0 w ga gb s1 s2 s3 s4 s5 s6 na nb A1 A2 la lb ca cb (#[d0, d1, true, false, d4, d5, d6, false].setIfInBounds 3 true) = KK at *
      exact st_call e1 e2 e3
    · obtain ⟨hd, hws, ty, pos, after, hi⟩ := h4.take hr
      obtain rfl : d4 = false := hd
      obtain rfl : d6 = false := by
        cases d6 with
        | false => rfl
        | true => exact absurd (hI.m6 rfl) (by decide)
      refine wpOp_none hi rfl ?_
      clear hr hws
      have e3 : PairI a0 w ga gb s1 s2 s3 s4 s5 s6 na nb A1 A2 la lb ca cb (#[d0, d1, d2, d3, false, d5, false, d7].setIfInBounds 4 true) ((put6 a0 s1 s2 s3 s4 s5 s6 u1 u2 u3 u4 u5 u6).put (some s5) (.pointer (some ⟨W.heap.size, 0, none⟩))) (W.alloc (.cells #[.bool false, .slice none 0 0] 24)) := ⟨d0, d1, d2, d3, true, d5, false, d7, u1, u2, u3, u4, (.pointer (some ⟨W.heap.size, 0, none⟩)), u6, some (W.heap.size, false, none, 0, 0), o6, x1, x2, rfl, put6_put5 f5 _ _ _ _ _ _ _, hI.alloc5 _⟩
      generalize put6 a0 s1 s2 s3 s4 s5 s6 u1 u2 u3 u4 u5 u6 = aa at *
      generalize PairI a0 w ga gb s1 s2 s3 s4 s5 s6 na nb A1 A2 la lb ca cb (#[d0, d1, d2, d3, false, d5, false, d7].setIfInBounds 4 true) = KK at *
      exact st_alloc e3
    · obtain ⟨hd, hws, ty, pos, after, hi⟩ := h5.take hr
      obtain rfl : d5 = false := hd
      obtain rfl : d7 = false := by
        cases d7 with
        | false => rfl
        | true => exact absurd (hI.m7 rfl) (by decide)
      refine wpOp_none hi rfl ?_
      clear hr hws
      have e3 : PairI a0 w ga gb s1 s2 s3 s4 s5 s6 na nb A1 A2 la lb ca cb (#[d0, d1, d2, d3, d4, false, d6, false].setIfInBounds 5 true) ((put6 a0 s1 s2 s3 s4 s5 s6 u1 u2 u3 u4 u5 u6).put (some s6) (.pointer (some ⟨W.heap.size, 0, none⟩))) (W.alloc (.cells #[.bool false, .slice none 0 0] 24)) := ⟨d0, d1, d2, d3, d4, true, d6, false, u1, u2, u3, u4, u5, (.pointer (some ⟨W.heap.size, 0, none⟩)), o5, some (W.heap.size, false, none, 0, 0), x1, x2, rfl, put6_put6 _ _ _ _ _ _ _, hI.alloc6 _⟩
      generalize put6 a0 s1 s2 s3 s4 s5 s6 u1 u2 u3 u4 u5 u6 = aa at *
      generalize PairI a0 w ga gb s1 s2 s3 s4 s5 s6 na nb A1 A2 la lb ca cb (#[d0, d1, d2, d3, d4, false, d6, false].setIfInBounds 5 true) = KK at *
      exact st_alloc e3
    · obtain ⟨hd, hws, ty, pos, after, hi⟩ := h6.take hr
      obtain rfl : d6 = false := hd
      obtain rfl : d1 = true := hws 1 (by simp)
      obtain rfl : d4 = true := hws 4 (by simp)
      obtain ⟨g, A, c, rfl, rfl, hk, hf, hI'⟩ := hI.store5 hab hw
      refine wpOp_none hi rfl ?_
      clear hr hws
      have e1 : (put6 a0 s1 s2 s3 s4 s5 s6 u1 (.agg #[.bool na, .slice A la.length c]) u3 u4 (.pointer (some ⟨g, 0, none⟩)) u6).eval (.tmp s5) = (.pointer (some ⟨g, 0, none⟩)) := put6_ev5 f5 hs5 _ _ _ _ _ _
      have e2 : (put6 a0 s1 s2 s3 s4 s5 s6 u1 (.agg #[.bool na, .slice A la.length c]) u3 u4 (.pointer (some ⟨g, 0, none⟩)) u6).eval (.tmp s2) = (.agg #[.bool na, .slice A la.length c]) := put6_ev2 b2 b3 b4 b5 hs2 _ _ _ _ _ _
      have e3 : PairI a0 w ga gb s1 s2 s3 s4 s5 s6 na nb A1 A2 la lb ca cb (#[d0, true, d2, d3, true, d5, false, d7].setIfInBounds 6 true) (put6 a0 s1 s2 s3 s4 s5 s6 u1 (.agg #[.bool na, .slice A la.length c]) u3 u4 (.pointer (some ⟨g, 0, none⟩)) u6) ((W.setCell ⟨g, 0, none⟩ (.bool na)).setCell ⟨g, 1, none⟩ (.slice A la.length c)) := ⟨d0, true, d2, d3, true, d5, true, d7, u1, (.agg #[.bool na, .slice A la.length c]), u3, u4, (.pointer (some ⟨g, 0, none⟩)), u6, some (g, na, A, la.length, c), o6, x1, x2, rfl, rfl, hI'⟩
      generalize put6 a0 s1 s2 s3 s4 s5 s6 u1 (.agg #[.bool na, .slice A la.length c]) u3 u4 (.pointer (some ⟨g, 0, none⟩)) u6 = aa at *
      generalize PairI a0 w ga gb s1 s2 s3 s4 s5 s6 na nb A1 A2 la lb ca cb (#[d0, true, d2, d3, true, d5, false, d7].setIfInBounds 6 true) = KK at *
      exact st_store e1 e2 hk hf e3
    · obtain ⟨hd, hws, ty, pos, after, hi⟩ := h7.take hr
      obtain rfl : d7 = false := hd
      obtain rfl : d3 = true := hws 3 (by simp)
      obtain rfl : d5 = true := hws 5 (by simp)
      obtain ⟨g, A, c, rfl, rfl, hk, hf, hI'⟩ := hI.store6 hab hw
      refine wpOp_none hi rfl ?_
      clear hr hws
      have e1 : (put6 a0 s1 s2 s3 s4 s5 s6 u1 u2 u3 (.agg #[.bool nb, .slice A lb.length c]) u5 (.pointer (some ⟨g, 0, none⟩))).eval (.tmp s6) = (.pointer (some ⟨g, 0, none⟩)) := put6_ev6 hs6 _ _ _ _ _ _
      have e2 : (put6 a0 s1 s2 s3 s4 s5 s6 u1 u2 u3 (.agg #[.bool nb, .slice A lb.length c]) u5 (.pointer (some ⟨g, 0, none⟩))).eval (.tmp s4) = (.agg #[.bool nb, .slice A lb.length c]) := put6_ev4 e4 e5 hs4 _ _ _ _ _ _
      have e3 : PairI a0 w ga gb s1 s2 s3 s4 s5 s6 na nb A1 A2 la lb ca cb (#[d0, d1, d2, true, d4, true, d6, false].setIfInBounds 7 true) (put6 a0 s1 s2 s3 s4 s5 s6 u1 u2 u3 (.agg #[.bool nb, .slice A lb.length c]) u5 (.pointer (some ⟨g, 0, none⟩))) ((W.setCell ⟨g, 0, none⟩ (.bool nb)).setCell ⟨g, 1, none⟩ (.slice A lb.length c)) := ⟨d0, d1, d2, true, d4, true, d6, true, u1, u2, u3, (.agg #[.bool nb, .slice A lb.length c]), u5, (.pointer (some ⟨g, 0, none⟩)), o5, some (g, nb, A, lb.length, c), x1, x2, rfl, rfl, hI'⟩
      generalize put6 a0 s1 s2 s3 s4 s5 s6 u1 u2 u3 (.agg #[.bool nb, .slice A lb.length c]) u5 (.pointer (some ⟨g, 0, none⟩)) = aa at *
      generalize PairI a0 w ga gb s1 s2 s3 s4 s5 s6 na nb A1 A2 la lb ca cb (#[d0, d1, d2, true, d4, true, d6, false].setIfInBounds 7 true) = KK at *
      exact st_store e1 e2 hk hf e3
end Go.Proofs.Ytejapkdhbpngbaa

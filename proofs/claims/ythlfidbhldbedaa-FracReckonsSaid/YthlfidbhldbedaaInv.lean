/- A region that draws its order: an invariant over what is done so far, one proof a step. -/
import Derived.Test.YthlfidbhldbedaaMem
import Derived.Deep.RegionHeld3
namespace Go.Proofs.Ythlfidbhldbedaa
open Go.RowKit
theorem ready_spec {md : Region.Mode} {ops : Array Oper} {l : Array Bool} {i : Nat} (h : i ∈ Region.ready md ops l) : i < ops.size ∧ l.getD i true = false ∧ ∀ o, ops[i]? = some o → ∀ e ∈ o.after, Region.binds md e = true → l.getD e.on false = true := by
  unfold Region.ready at h
  rw [List.mem_filter, List.mem_range, Bool.and_eq_true, Bool.not_eq_true'] at h
  refine ⟨h.1, h.2.1, fun o ho e he hb => ?_⟩
  have h2 := h.2.2
  rw [ho] at h2
  simp only [Option.map_some, Option.getD_some, Array.all_eq_true_iff_forall_mem] at h2
  have h3 := h2 e he
  rw [hb] at h3
  simpa using h3

theorem count_done {l : List Bool} {i : Nat} (h : l[i]? = some false) : (l.set i true).count false + 1 = l.count false := by
  induction l generalizing i with
  | nil => simp at h
  | cons x t ih =>
    cases i with
    | zero =>
      simp at h; subst h
      simp [List.set]
    | succ i =>
      have := ih (i := i) (by simpa using h)
      simp only [List.set_cons_succ, List.count_cons]
      omega

theorem wpAny_inv {P : Program} {md : Region.Mode} {ops : Array Oper} {Q : Exit → Act → World → Prop} {I : Array Bool → Act → World → Prop}
    (hsz : ∀ l a w, I l a w → l.size = ops.size)
    (hstep : ∀ l a w i, I l a w → i ∈ Region.ready md ops l → wpOp P ops Q i (I (l.setIfInBounds i true)) a w)
    (hend : ∀ l a w, I l a w → Region.ready md ops l = [] → Q .normal a w) :
    ∀ (fuel : Nat) (l : Array Bool) (a : Act) (w : World), l.toList.count false ≤ fuel → I l a w → wpAny P md ops Q fuel l a w
  | 0, l, a, w, hc, hI => by
    have hr : Region.ready md ops l = [] := by
      rw [List.eq_nil_iff_forall_not_mem]
      intro i hi
      have h := (ready_spec hi).2.1
      have h2 : i < l.size := by rw [hsz _ _ _ hI]; exact (ready_spec hi).1
      have h3 : l.toList[i]? = some false := by
        rw [Array.getElem?_toList, Array.getElem?_eq_getElem h2]
        rw [Array.getD_eq_getD_getElem?, Array.getElem?_eq_getElem h2, Option.getD_some] at h
        rw [h]
      have := count_done h3
      omega
    exact ⟨hr, hend _ _ _ hI hr⟩
  | fuel + 1, l, a, w, hc, hI => by
    refine ⟨fun hr => hend _ _ _ hI hr, fun i hi => ?_⟩
    have h := (ready_spec hi).2.1
    have h2 : i < l.size := by rw [hsz _ _ _ hI]; exact (ready_spec hi).1
    have h3 : l.toList[i]? = some false := by
      rw [Array.getElem?_toList, Array.getElem?_eq_getElem h2]
      rw [Array.getD_eq_getD_getElem?, Array.getElem?_eq_getElem h2, Option.getD_some] at h
      rw [h]
    have h4 := count_done h3
    refine wpOp_mono (fun a' w' hI' => wpAny_inv hsz hstep hend fuel _ a' w' ?_ hI') (hstep l a w i hI hi)
    rw [Array.toList_setIfInBounds]
    omega

end Go.Proofs.Ythlfidbhldbedaa
/- Two calls' numbers laid into two new boxes by one statement that draws its order: what holds behind each step. -/
namespace Go.Proofs.Ythlfidbhldbedaa
open Go.RowKit
theorem put_size (a : Act) (d : Nat) (x : Value) : (a.put (some d) x).tmps.size = a.tmps.size := by simp [Act.put]

theorem ev_ne {a : Act} {d t : Nat} (x : Value) (h : d ≠ t) : (a.put (some d) x).eval (.tmp t) = a.eval (.tmp t) := by
  simp [Act.put, Act.eval, Array.getD_eq_getD_getElem?, h]

theorem ev_eq {a : Act} {d : Nat} (x : Value) (h : d < a.tmps.size) : (a.put (some d) x).eval (.tmp d) = x := by
  simp [Act.put, Act.eval, Array.getD_eq_getD_getElem?, h]

theorem put_comm {a : Act} {d e : Nat} (h : d ≠ e) (x y : Value) : (a.put (some d) x).put (some e) y = (a.put (some e) y).put (some d) x := by
  simp only [Act.put]
  congr 1
  exact Array.setIfInBounds_comm _ _ h

theorem put_put (a : Act) (d : Nat) (x y : Value) : (a.put (some d) x).put (some d) y = a.put (some d) y := by
  simp [Act.put]

/-- The frame with six slots laid anew. -/
def put6 (a : Act) (s1 s2 s3 s4 s5 s6 : Nat) (u1 u2 u3 u4 u5 u6 : Value) : Act := (((((a.put (some s1) u1).put (some s2) u2).put (some s3) u3).put (some s4) u4).put (some s5) u5).put (some s6) u6

section
variable {a : Act} {s1 s2 s3 s4 s5 s6 t : Nat}
theorem put6_ne (hn : t ≠ s1 ∧ t ≠ s2 ∧ t ≠ s3 ∧ t ≠ s4 ∧ t ≠ s5 ∧ t ≠ s6) (u1 u2 u3 u4 u5 u6 : Value) : (put6 a s1 s2 s3 s4 s5 s6 u1 u2 u3 u4 u5 u6).eval (.tmp t) = a.eval (.tmp t) := by
  unfold put6
  rw [ev_ne _ hn.2.2.2.2.2.symm, ev_ne _ hn.2.2.2.2.1.symm, ev_ne _ hn.2.2.2.1.symm, ev_ne _ hn.2.2.1.symm, ev_ne _ hn.2.1.symm, ev_ne _ hn.1.symm]

theorem put6_ev1 (h12 : s2 ≠ s1) (h13 : s3 ≠ s1) (h14 : s4 ≠ s1) (h15 : s5 ≠ s1) (h16 : s6 ≠ s1) (hs : s1 < a.tmps.size) (u1 u2 u3 u4 u5 u6 : Value) : (put6 a s1 s2 s3 s4 s5 s6 u1 u2 u3 u4 u5 u6).eval (.tmp s1) = u1 := by
  unfold put6
  rw [ev_ne _ h16, ev_ne _ h15, ev_ne _ h14, ev_ne _ h13, ev_ne _ h12, ev_eq _ (by simpa only [put_size] using hs)]

theorem put6_ev2 (h23 : s3 ≠ s2) (h24 : s4 ≠ s2) (h25 : s5 ≠ s2) (h26 : s6 ≠ s2) (hs : s2 < a.tmps.size) (u1 u2 u3 u4 u5 u6 : Value) : (put6 a s1 s2 s3 s4 s5 s6 u1 u2 u3 u4 u5 u6).eval (.tmp s2) = u2 := by
  unfold put6
  rw [ev_ne _ h26, ev_ne _ h25, ev_ne _ h24, ev_ne _ h23, ev_eq _ (by simpa only [put_size] using hs)]

theorem put6_ev3 (h34 : s4 ≠ s3) (h35 : s5 ≠ s3) (h36 : s6 ≠ s3) (hs : s3 < a.tmps.size) (u1 u2 u3 u4 u5 u6 : Value) : (put6 a s1 s2 s3 s4 s5 s6 u1 u2 u3 u4 u5 u6).eval (.tmp s3) = u3 := by
  unfold put6
  rw [ev_ne _ h36, ev_ne _ h35, ev_ne _ h34, ev_eq _ (by simpa only [put_size] using hs)]

theorem put6_ev4 (h45 : s5 ≠ s4) (h46 : s6 ≠ s4) (hs : s4 < a.tmps.size) (u1 u2 u3 u4 u5 u6 : Value) : (put6 a s1 s2 s3 s4 s5 s6 u1 u2 u3 u4 u5 u6).eval (.tmp s4) = u4 := by
  unfold put6
  rw [ev_ne _ h46, ev_ne _ h45, ev_eq _ (by simpa only [put_size] using hs)]

theorem put6_ev5 (h56 : s6 ≠ s5) (hs : s5 < a.tmps.size) (u1 u2 u3 u4 u5 u6 : Value) : (put6 a s1 s2 s3 s4 s5 s6 u1 u2 u3 u4 u5 u6).eval (.tmp s5) = u5 := by
  unfold put6
  rw [ev_ne _ h56, ev_eq _ (by simpa only [put_size] using hs)]

theorem put6_ev6  (hs : s6 < a.tmps.size) (u1 u2 u3 u4 u5 u6 : Value) : (put6 a s1 s2 s3 s4 s5 s6 u1 u2 u3 u4 u5 u6).eval (.tmp s6) = u6 := by
  unfold put6
  exact ev_eq _ (by simp only [put_size]; exact hs)

theorem put6_put1 (h12 : s2 ≠ s1) (h13 : s3 ≠ s1) (h14 : s4 ≠ s1) (h15 : s5 ≠ s1) (h16 : s6 ≠ s1) (u1 u2 u3 u4 u5 u6 x : Value) : (put6 a s1 s2 s3 s4 s5 s6 u1 u2 u3 u4 u5 u6).put (some s1) x = put6 a s1 s2 s3 s4 s5 s6 x u2 u3 u4 u5 u6 := by
  unfold put6
  rw [put_comm h16, put_comm h15, put_comm h14, put_comm h13, put_comm h12, put_put]

theorem put6_put2 (h23 : s3 ≠ s2) (h24 : s4 ≠ s2) (h25 : s5 ≠ s2) (h26 : s6 ≠ s2) (u1 u2 u3 u4 u5 u6 x : Value) : (put6 a s1 s2 s3 s4 s5 s6 u1 u2 u3 u4 u5 u6).put (some s2) x = put6 a s1 s2 s3 s4 s5 s6 u1 x u3 u4 u5 u6 := by
  unfold put6
  rw [put_comm h26, put_comm h25, put_comm h24, put_comm h23, put_put]

theorem put6_put3 (h34 : s4 ≠ s3) (h35 : s5 ≠ s3) (h36 : s6 ≠ s3) (u1 u2 u3 u4 u5 u6 x : Value) : (put6 a s1 s2 s3 s4 s5 s6 u1 u2 u3 u4 u5 u6).put (some s3) x = put6 a s1 s2 s3 s4 s5 s6 u1 u2 x u4 u5 u6 := by
  unfold put6
  rw [put_comm h36, put_comm h35, put_comm h34, put_put]

theorem put6_put4 (h45 : s5 ≠ s4) (h46 : s6 ≠ s4) (u1 u2 u3 u4 u5 u6 x : Value) : (put6 a s1 s2 s3 s4 s5 s6 u1 u2 u3 u4 u5 u6).put (some s4) x = put6 a s1 s2 s3 s4 s5 s6 u1 u2 u3 x u5 u6 := by
  unfold put6
  rw [put_comm h46, put_comm h45, put_put]

theorem put6_put5 (h56 : s6 ≠ s5) (u1 u2 u3 u4 u5 u6 x : Value) : (put6 a s1 s2 s3 s4 s5 s6 u1 u2 u3 u4 u5 u6).put (some s5) x = put6 a s1 s2 s3 s4 s5 s6 u1 u2 u3 u4 x u6 := by
  unfold put6
  rw [put_comm h56, put_put]

theorem put6_put6  (u1 u2 u3 u4 u5 u6 x : Value) : (put6 a s1 s2 s3 s4 s5 s6 u1 u2 u3 u4 u5 u6).put (some s6) x = put6 a s1 s2 s3 s4 s5 s6 u1 u2 u3 u4 u5 x := by
  unfold put6
  rw [put_put]

end
theorem wpOp_of {P : Program} {ops : Array Oper} {Q : Exit → Act → World → Prop} {i : Nat} {K : Act → World → Prop} {a : Act} {w : World} {o : Oper} (hi : ops[i]? = some o)
    (h : if Region.wanted o (yielded ops a.tmps) = true then Oper.wp P o a w K Q else K (a.put o.dst undef) w) : wpOp P ops Q i K a w := by
  unfold wpOp
  rw [hi]
  simp only []
  split
  · rename_i hw; rw [if_pos hw] at h; exact .inl h
  · rename_i hw; rw [if_neg hw] at h; exact h

/-- Each step waits for earlier ones alone. -/
def ordered (ops : Array Oper) : Bool := (List.range ops.size).all fun i => ((ops[i]?).map fun o => o.after.all fun e => decide (e.on < i)).getD true

theorem ready_nil {md : Region.Mode} {ops : Array Oper} {l : Array Bool} (hsz : l.size = ops.size) (hord : ordered ops = true) (h : Region.ready md ops l = []) : ∀ i, i < ops.size → l.getD i true = true := by
  intro i
  induction i using Nat.strongRecOn with
  | ind i ih =>
    intro hi
    cases hd : l.getD i true with
    | true => rfl
    | false =>
      exfalso
      have ho := List.all_eq_true.1 hord i (List.mem_range.2 hi)
      rw [Array.getElem?_eq_getElem hi] at ho
      simp only [Option.map_some, Option.getD_some, Array.all_eq_true_iff_forall_mem, decide_eq_true_eq] at ho
      have hm : i ∈ Region.ready md ops l := by
        unfold Region.ready
        rw [List.mem_filter, List.mem_range, Bool.and_eq_true, Bool.not_eq_true']
        refine ⟨hi, hd, ?_⟩
        rw [Array.getElem?_eq_getElem hi]
        simp only [Option.map_some, Option.getD_some, Array.all_eq_true_iff_forall_mem, Bool.or_eq_true, Bool.not_eq_true']
        intro e he
        right
        have h1 := ho e he
        have h2 := ih e.on h1 (by omega)
        have h3 : e.on < l.size := by omega
        rw [Array.getD_eq_getD_getElem?, Array.getElem?_eq_getElem h3, Option.getD_some] at h2 ⊢
        exact h2
      rw [h] at hm
      cases hm

def SAB (ga : Nat) (na : Bool) (A1 : Option Addr) (m1 c1 : Nat) (gb : Nat) (nb : Bool) (A2 : Option Addr) (m2 c2 : Nat) (W : World) : Prop := Cw W ga na A1 m1 c1 ∧ Cw W gb nb A2 m2 c2

structure PI (w : World) (S : World → Prop) (la lb : List Nat) (na nb : Bool) (VA VB : Value) (gb : Nat) (d0 d1 d2 d3 d4 d5 d6 d7 : Bool) (u1 u2 u3 u4 u5 u6 : Value) (W : World) (o5 o6 : Option (Nat × Bool × Option Addr × Nat × Nat)) (x1 x2 : Option (Option Addr × Nat)) : Prop where
  rs : RS w S la lb o5 o6 x1 x2 W
  p0 : d0 = true → u1 = VA
  p2 : d2 = true → u3 = VB
  p1 : d1 = false → x1 = none
  q1 : d1 = true → ∃ A c, x1 = some (A, c) ∧ u2 = .agg #[.bool na, .slice A la.length c]
  p3 : d3 = false → x2 = none
  q3 : d3 = true → ∃ A c, x2 = some (A, c) ∧ u4 = .agg #[.bool nb, .slice A lb.length c]
  p4 : d4 = false → o5 = none
  q4 : d4 = true → ∃ g v, u5 = .pointer (some ⟨g, 0, none⟩) ∧ o5 = some (g, v) ∧ gb < g ∧ (d6 = false → v = (false, none, 0, 0)) ∧ (d6 = true → ∃ A c, x1 = some (A, c) ∧ v = (na, A, la.length, c))
  p5 : d5 = false → o6 = none
  q5 : d5 = true → ∃ g v, u6 = .pointer (some ⟨g, 0, none⟩) ∧ o6 = some (g, v) ∧ gb < g ∧ (d7 = false → v = (false, none, 0, 0)) ∧ (d7 = true → ∃ A c, x2 = some (A, c) ∧ v = (nb, A, lb.length, c))
  n6 : d6 = true → d1 = true
  n7 : d7 = true → d3 = true
  m6 : d6 = true → d4 = true
  m7 : d7 = true → d5 = true
  pd : ∀ g v g' v', o5 = some (g, v) → o6 = some (g', v') → g' ≠ g

section
variable {w W v : World} {la lb : List Nat} {na nb : Bool} {VA VB : Value} {ga gb : Nat} {A1 A2 : Option Addr} {m1 c1 m2 c2 : Nat} {d0 d1 d2 d3 d4 d5 d6 d7 : Bool} {u1 u2 u3 u4 u5 u6 : Value} {o5 o6 : Option (Nat × Bool × Option Addr × Nat × Nat)} {x1 x2 : Option (Option Addr × Nat)} {ka kb : Bool}
theorem PI.start (hb : Below w.heap.size w W) (hS : (SAB ga ka A1 m1 c1 gb kb A2 m2 c2) W) : PI w (SAB ga ka A1 m1 c1 gb kb A2 m2 c2) la lb na nb VA VB gb false false false false false false false false u1 u2 u3 u4 u5 u6 W none none none none :=
  ⟨RS.start hb hS, fun h => (by cases h), fun h => (by cases h), fun _ => rfl, fun h => (by cases h), fun _ => rfl, fun h => (by cases h), fun _ => rfl, fun h => (by cases h), fun _ => rfl, fun h => (by cases h), fun h => (by cases h), fun h => (by cases h), fun h => (by cases h), fun h => (by cases h), fun _ _ _ _ h => (by cases h)⟩

theorem PI.load1 (h : PI w (SAB ga ka A1 m1 c1 gb kb A2 m2 c2) la lb na nb VA VB gb d0 d1 d2 d3 d4 d5 d6 d7 u1 u2 u3 u4 u5 u6 W o5 o6 x1 x2) : PI w (SAB ga ka A1 m1 c1 gb kb A2 m2 c2) la lb na nb VA VB gb true d1 d2 d3 d4 d5 d6 d7 VA u2 u3 u4 u5 u6 W o5 o6 x1 x2 := { h with p0 := fun _ => rfl }

theorem PI.load2 (h : PI w (SAB ga ka A1 m1 c1 gb kb A2 m2 c2) la lb na nb VA VB gb d0 d1 d2 d3 d4 d5 d6 d7 u1 u2 u3 u4 u5 u6 W o5 o6 x1 x2) : PI w (SAB ga ka A1 m1 c1 gb kb A2 m2 c2) la lb na nb VA VB gb d0 d1 true d3 d4 d5 d6 d7 u1 u2 VB u4 u5 u6 W o5 o6 x1 x2 := { h with p2 := fun _ => rfl }

theorem PI.call1 (h : PI w (SAB ga ka A1 m1 c1 gb kb A2 m2 c2) la lb na nb VA VB gb d0 false d2 d3 d4 d5 false d7 u1 u2 u3 u4 u5 u6 W o5 o6 x1 x2) (hb : Below W.heap.size W v) {A : Option Addr} {c : Nat} (hs : Sl v A la c) :
    PI w (SAB ga ka A1 m1 c1 gb kb A2 m2 c2) la lb na nb VA VB gb d0 true d2 d3 d4 d5 false d7 u1 (.agg #[.bool na, .slice A la.length c]) u3 u4 u5 u6 v o5 o6 (some (A, c)) x2 := by
  have e := h.p1 rfl
  subst e
  exact { rs := h.rs.call1 hb hs ⟨h.rs.ks.1.keep hb, h.rs.ks.2.keep hb⟩, p0 := h.p0, p2 := h.p2, p1 := fun h => (by cases h), q1 := fun _ => ⟨A, c, rfl, rfl⟩, p3 := h.p3, q3 := h.q3, p4 := h.p4, q4 := fun e => (by
      obtain ⟨g, v, a, b, c, d, _⟩ := h.q4 e
      exact ⟨g, v, a, b, c, d, fun h => (by cases h)⟩), p5 := h.p5, q5 := h.q5, n6 := fun h => (by cases h), n7 := h.n7, m6 := fun h => (by cases h), m7 := h.m7, pd := h.pd }

theorem PI.call2 (h : PI w (SAB ga ka A1 m1 c1 gb kb A2 m2 c2) la lb na nb VA VB gb d0 d1 d2 false d4 d5 d6 false u1 u2 u3 u4 u5 u6 W o5 o6 x1 x2) (hb : Below W.heap.size W v) {A : Option Addr} {c : Nat} (hs : Sl v A lb c) :
    PI w (SAB ga ka A1 m1 c1 gb kb A2 m2 c2) la lb na nb VA VB gb d0 d1 d2 true d4 d5 d6 false u1 u2 u3 (.agg #[.bool nb, .slice A lb.length c]) u5 u6 v o5 o6 x1 (some (A, c)) := by
  have e := h.p3 rfl
  subst e
  exact { rs := h.rs.call2 hb hs ⟨h.rs.ks.1.keep hb, h.rs.ks.2.keep hb⟩, p0 := h.p0, p2 := h.p2, p1 := h.p1, q1 := h.q1, p3 := fun h => (by cases h), q3 := fun _ => ⟨A, c, rfl, rfl⟩, p4 := h.p4, q4 := h.q4, p5 := h.p5, q5 := fun e => (by
      obtain ⟨g, v, a, b, c, d, _⟩ := h.q5 e
      exact ⟨g, v, a, b, c, d, fun h => (by cases h)⟩), n6 := h.n6, n7 := fun h => (by cases h), m6 := h.m6, m7 := fun h => (by cases h), pd := h.pd }

theorem PI.alloc5 (t : TypeId) (h : PI w (SAB ga ka A1 m1 c1 gb kb A2 m2 c2) la lb na nb VA VB gb d0 d1 d2 d3 false d5 false d7 u1 u2 u3 u4 u5 u6 W o5 o6 x1 x2) :
    PI w (SAB ga ka A1 m1 c1 gb kb A2 m2 c2) la lb na nb VA VB gb d0 d1 d2 d3 true d5 false d7 u1 u2 u3 u4 (.pointer (some ⟨W.heap.size, 0, none⟩)) u6 (W.alloc (.cells #[.bool false, .slice none 0 0] t)) (some (W.heap.size, false, none, 0, 0)) o6 x1 x2 := by
  have e := h.p4 rfl
  subst e
  have hS : (SAB ga ka A1 m1 c1 gb kb A2 m2 c2) (W.alloc (.cells #[.bool false, .slice none 0 0] t)) := ⟨h.rs.ks.1.keep (blw1 _ _), h.rs.ks.2.keep (blw1 _ _)⟩
  exact { rs := h.rs.alloc5 t rfl hS, p0 := h.p0, p2 := h.p2, p1 := h.p1, q1 := h.q1, p3 := h.p3, q3 := h.q3, p4 := fun h => (by cases h), q4 := fun _ => ⟨W.heap.size, _, rfl, rfl, lt_of_cell h.rs.ks.2.1, fun _ => rfl, fun h => (by cases h)⟩, p5 := h.p5, q5 := h.q5, n6 := fun h => (by cases h), n7 := h.n7, m6 := fun h => (by cases h), m7 := h.m7, pd := fun g v g' v' e1 e2 => (by
      cases e1
      have := lt_of_cell (h.rs.k6 _ _ _ _ _ e2).1.1
      simp at this
      omega) }

theorem PI.alloc6 (t : TypeId) (h : PI w (SAB ga ka A1 m1 c1 gb kb A2 m2 c2) la lb na nb VA VB gb d0 d1 d2 d3 d4 false d6 false u1 u2 u3 u4 u5 u6 W o5 o6 x1 x2) :
    PI w (SAB ga ka A1 m1 c1 gb kb A2 m2 c2) la lb na nb VA VB gb d0 d1 d2 d3 d4 true d6 false u1 u2 u3 u4 u5 (.pointer (some ⟨W.heap.size, 0, none⟩)) (W.alloc (.cells #[.bool false, .slice none 0 0] t)) o5 (some (W.heap.size, false, none, 0, 0)) x1 x2 := by
  have e := h.p5 rfl
  subst e
  have hS : (SAB ga ka A1 m1 c1 gb kb A2 m2 c2) (W.alloc (.cells #[.bool false, .slice none 0 0] t)) := ⟨h.rs.ks.1.keep (blw1 _ _), h.rs.ks.2.keep (blw1 _ _)⟩
  exact { rs := h.rs.alloc6 t rfl hS, p0 := h.p0, p2 := h.p2, p1 := h.p1, q1 := h.q1, p3 := h.p3, q3 := h.q3, p4 := h.p4, q4 := h.q4, p5 := fun h => (by cases h), q5 := fun _ => ⟨W.heap.size, _, rfl, rfl, lt_of_cell h.rs.ks.2.1, fun _ => rfl, fun h => (by cases h)⟩, n6 := h.n6, n7 := fun h => (by cases h), m6 := h.m6, m7 := fun h => (by cases h), pd := fun g v g' v' e1 e2 => (by
      cases e2
      have := lt_of_cell (h.rs.k5 _ _ _ _ _ e1).1.1
      simp at this
      omega) }

theorem PI.store5 (hab : ga ≤ gb) (hw : w.heap.size ≤ gb) (h : PI w (SAB ga ka A1 m1 c1 gb kb A2 m2 c2) la lb na nb VA VB gb d0 true d2 d3 true d5 false d7 u1 u2 u3 u4 u5 u6 W o5 o6 x1 x2) :
    ∃ g A c, u5 = .pointer (some ⟨g, 0, none⟩) ∧ u2 = .agg #[.bool na, .slice A la.length c] ∧ Cw W g false none 0 0 ∧ Fw W g ∧
      PI w (SAB ga ka A1 m1 c1 gb kb A2 m2 c2) la lb na nb VA VB gb d0 true d2 d3 true d5 true d7 u1 u2 u3 u4 u5 u6 ((W.setCell ⟨g, 0, none⟩ (.bool na)).setCell ⟨g, 1, none⟩ (.slice A la.length c)) (some (g, na, A, la.length, c)) o6 x1 x2 := by
  obtain ⟨A, c, rfl, rfl⟩ := h.q1 rfl
  obtain ⟨g, v, rfl, rfl, hg, hv, _⟩ := h.q4 rfl
  obtain rfl := hv rfl
  have q := h.rs.k5 _ _ _ _ _ rfl
  have hS : (SAB ga ka A1 m1 c1 gb kb A2 m2 c2) ((W.setCell ⟨g, 0, none⟩ (.bool na)).setCell ⟨g, 1, none⟩ (.slice A la.length c)) := ⟨h.rs.ks.1.setW (by omega) _ _, h.rs.ks.2.setW (by omega) _ _⟩
  refine ⟨g, A, c, rfl, rfl, q.1, q.2, ?_⟩
  exact { rs := h.rs.store5 rfl (by omega) (fun g' n A m c e => h.pd _ _ _ _ rfl e) hS, p0 := h.p0, p2 := h.p2, p1 := h.p1, q1 := fun _ => ⟨A, c, rfl, rfl⟩, p3 := h.p3, q3 := h.q3, p4 := fun h => (by cases h), q4 := fun _ => ⟨g, _, rfl, rfl, hg, fun h => (by cases h), fun _ => ⟨A, c, rfl, rfl⟩⟩, p5 := h.p5, q5 := h.q5, n6 := fun _ => rfl, n7 := h.n7, m6 := fun _ => rfl, m7 := h.m7, pd := fun g v g' v' e1 e2 => (by
      cases e1
      exact h.pd _ _ _ _ rfl e2) }

theorem PI.store6 (hab : ga ≤ gb) (hw : w.heap.size ≤ gb) (h : PI w (SAB ga ka A1 m1 c1 gb kb A2 m2 c2) la lb na nb VA VB gb d0 d1 d2 true d4 true d6 false u1 u2 u3 u4 u5 u6 W o5 o6 x1 x2) :
    ∃ g A c, u6 = .pointer (some ⟨g, 0, none⟩) ∧ u4 = .agg #[.bool nb, .slice A lb.length c] ∧ Cw W g false none 0 0 ∧ Fw W g ∧
      PI w (SAB ga ka A1 m1 c1 gb kb A2 m2 c2) la lb na nb VA VB gb d0 d1 d2 true d4 true d6 true u1 u2 u3 u4 u5 u6 ((W.setCell ⟨g, 0, none⟩ (.bool nb)).setCell ⟨g, 1, none⟩ (.slice A lb.length c)) o5 (some (g, nb, A, lb.length, c)) x1 x2 := by
  obtain ⟨A, c, rfl, rfl⟩ := h.q3 rfl
  obtain ⟨g, v, rfl, rfl, hg, hv, _⟩ := h.q5 rfl
  obtain rfl := hv rfl
  have q := h.rs.k6 _ _ _ _ _ rfl
  have hS : (SAB ga ka A1 m1 c1 gb kb A2 m2 c2) ((W.setCell ⟨g, 0, none⟩ (.bool nb)).setCell ⟨g, 1, none⟩ (.slice A lb.length c)) := ⟨h.rs.ks.1.setW (by omega) _ _, h.rs.ks.2.setW (by omega) _ _⟩
  refine ⟨g, A, c, rfl, rfl, q.1, q.2, ?_⟩
  exact { rs := h.rs.store6 rfl (by omega) (fun g' n A m c e => (h.pd _ _ _ _ e rfl).symm) hS, p0 := h.p0, p2 := h.p2, p1 := h.p1, q1 := h.q1, p3 := h.p3, q3 := fun _ => ⟨A, c, rfl, rfl⟩, p4 := h.p4, q4 := h.q4, p5 := fun h => (by cases h), q5 := fun _ => ⟨g, _, rfl, rfl, hg, fun h => (by cases h), fun _ => ⟨A, c, rfl, rfl⟩⟩, n6 := h.n6, n7 := fun _ => rfl, m6 := h.m6, m7 := fun _ => rfl, pd := fun g v g' v' e1 e2 => (by
      cases e2
      exact h.pd _ _ _ _ e1 rfl) }

theorem PI.done (h : PI w (SAB ga ka A1 m1 c1 gb kb A2 m2 c2) la lb na nb VA VB gb d0 d1 d2 d3 true true true true u1 u2 u3 u4 u5 u6 W o5 o6 x1 x2) :
    ∃ g5 g6 A5 c5 A6 c6, u5 = .pointer (some ⟨g5, 0, none⟩) ∧ u6 = .pointer (some ⟨g6, 0, none⟩) ∧ gb < g5 ∧ gb < g6 ∧ RS w (SAB ga ka A1 m1 c1 gb kb A2 m2 c2) la lb (some (g5, na, A5, la.length, c5)) (some (g6, nb, A6, lb.length, c6)) (some (A5, c5)) (some (A6, c6)) W := by
  obtain ⟨g5, v5, rfl, rfl, h5, _, k5⟩ := h.q4 rfl
  obtain ⟨g6, v6, rfl, rfl, h6, _, k6⟩ := h.q5 rfl
  obtain ⟨A5, c5, rfl, rfl⟩ := k5 rfl
  obtain ⟨A6, c6, rfl, rfl⟩ := k6 rfl
  exact ⟨g5, g6, A5, c5, A6, c6, rfl, rfl, h5, h6, h.rs⟩

end
end Go.Proofs.Ythlfidbhldbedaa

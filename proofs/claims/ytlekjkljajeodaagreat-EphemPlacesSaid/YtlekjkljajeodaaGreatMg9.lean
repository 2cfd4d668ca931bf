import Derived.StillTail
import Derived.OrdersHeld
import Derived.Deep.RegionHeld
import Derived.Test.YtlekjkljajeodaaGreatMg6
namespace Go.Proofs.YtlekjkljajeodaaGreat
open Go
section
variable {P : Program} {ops : Array Oper} {Q : Exit → Act → World → Prop} {md : Region.Mode} {S : World → Prop} {n : Nat} {L : Array Bool → Act → World → Prop}
def wpHT (P : Program) (md : Region.Mode) (ops : Array Oper) (Q : Exit → Act → World → Prop) (S : World → Prop) (n : Nat) (L : Array Bool → Act → World → Prop) : Nat → Array Bool → Act → World → Prop
 | 0, listed, a, w => L listed a w
 | f + 1, listed, a, w => Region.ready md ops listed ≠ [] ∧ ∀ i ∈ Region.ready md ops listed, i < n ∧ wpOp P ops Q i (fun a' w' => S w' ∧ wpHT P md ops Q S n L f (listed.setIfInBounds i true) a' w') a w
theorem wpAny_of_HT {g : Nat} (hL : ∀ listed a w, L listed a w → wpAny P md ops Q g listed a w) : ∀ (f : Nat) (listed : Array Bool) (a : Act) (w : World), wpHT P md ops Q S n L f listed a w → wpAny P md ops Q (f + g) listed a w
 | 0, listed, a, w, h => by rw [Nat.zero_add]; exact hL _ _ _ h
 | f + 1, listed, a, w, h => by
  rw [show f + 1 + g = (f + g) + 1 by omega];exact ⟨fun h0 => absurd h0 h.1, fun i hi => wpOp_mono (fun a' w' h' => wpAny_of_HT hL f _ a' w' h'.2) (h.2 i hi).2⟩
theorem wpHT_first {i : Nat} {oi : Oper} {v : Value} (hi : ops[i]? = some oi) (hsel : ∀ (j : Nat) (o : Oper) cs b, ops[j]? = some o → o.op ≠ .select cs b)
  (hQ : ∀ c a w, Q (.panic c) (a.put oi.dst v) w → Q (.panic c) a w) (hs : Region.sinkB md ops n = true) (hc : Region.chainB md ops n = true) (hn : n < ops.size) (hin : i < n)
  (hdone : ∀ listed a w, L listed a w → ∀ j ∈ Region.ready md ops listed, n ≤ j) :
  ∀ (f : Nat) (listed : Array Bool) (a : Act) (w : World), HeadInv md ops n listed →
   (∀ j oj, ops[j]? = some oj → j ≠ i → listed.getD j true = false → (∀ e ∈ oj.after, Region.binds md e = true → e.on ≠ i) → oi.apart ops oj = true) →
   i ∈ Region.ready md ops listed → YieldsIf P ops S oi v a → S w →
   wpHT P md ops Q S n L f (listed.setIfInBounds i true) (a.put oi.dst v) w → wpHT P md ops Q S n L (f + 1) listed a w := by
 intro f
 induction f with
 | zero =>
  intro listed a w inv _ hr hy hS H;have hun := (mem_ready.1 hr).1;refine ⟨fun h => (by rw [h] at hr; cases hr), fun j hj => ?_⟩
  have hjn : j < n := by
   rcases Nat.lt_or_ge j n with h | h
   ·exact h
   ·exact absurd hj (tail_waits hs hc hn inv _ i rfl hin hun j h)
  by_cases hji : j = i
  ·subst hji; exact ⟨hjn, hy.wpOp hi hS ⟨hS, H⟩⟩
  ·have := hdone _ _ _ H j (ready_mono hj hji);omega
 | succ f ih =>
  intro listed a w inv hfree hr hy hS H;have hun := (mem_ready.1 hr).1;refine ⟨fun h => (by rw [h] at hr; cases hr), fun j hj => ?_⟩
  have hjn : j < n := by
   rcases Nat.lt_or_ge j n with h | h
   ·exact h
   ·exact absurd hj (tail_waits hs hc hn inv _ i rfl hin hun j h)
  refine ⟨hjn, ?_⟩;by_cases hji : j = i
  ·subst hji; exact hy.wpOp hi hS ⟨hS, H⟩
  ·have h1 := (H.2 j (ready_mono hj hji)).2;obtain ⟨hjun, oj, hoj, hall⟩ := mem_ready.1 hj
   have hnot : ∀ e ∈ oj.after, Region.binds md e = true → e.on ≠ i := fun e he hb heq => by
    have h2 := hall e he hb;rw [heq, getD_both hun] at h2;cases h2
   have h2 := wpOp_putIf hoj (hfree j oj hoj hji hjun hnot) (fun cs b => hsel i oi cs b hi) (fun cs b => hsel j oj cs b hoj) hQ hy h1;refine wpOp_mono (fun a' w' h3 => ⟨h3.2.1, ih (listed.setIfInBounds j true) a' w' (inv.set hj hjn) (fun k ok hk hki hku hno => ?_) (ready_mono hr (Ne.symm hji)) h3.1 h3.2.1 ?_⟩) h2
   ·refine hfree k ok hk hki ?_ hno;by_cases hjk : j = k
    ·subst hjk; exact hjun
    ·rw [Go.getD_set_ne true hjk] at hku; exact hku
   ·rw [Array.setIfInBounds_comm _ _ hji];exact h3.2.2
def headB (md : Region.Mode) (ops : Array Oper) (n : Nat) (listed : Array Bool) : Bool :=
 decide (listed.size = ops.size) && ((List.range ops.size).all fun j => !(listed.getD j false) || (match ops[j]? with | some oj => oj.after.all fun e => !(Region.binds md e) || listed.getD e.on false | none => true)) &&
  (List.range ops.size).all fun t => decide (t < n) || !(listed.getD t true)
theorem headB_spec {listed : Array Bool} (h : headB md ops n listed = true) : HeadInv md ops n listed := by
 simp only [headB, Bool.and_eq_true, decide_eq_true_eq] at h;obtain ⟨⟨h1, h2⟩, h3⟩ := h;refine ⟨h1, fun j oj hj hl e he hb => ?_, fun t ht htn => ?_⟩
 ·have hjs := (Array.getElem?_eq_some_iff.1 hj).1;have q := List.all_eq_true.1 h2 j (List.mem_range.2 hjs);simp only [hl, hj, Bool.not_true, Bool.false_or] at q;have q2 := Array.all_eq_true_iff_forall_mem.1 q e he;simpa [hb] using q2
 ·have q := List.all_eq_true.1 h3 t (List.mem_range.2 htn);simp only [Bool.or_eq_true, decide_eq_true_eq, Bool.not_eq_true'] at q;rcases q with q | q
  ·omega
  ·exact q
def TailL (P : Program) (l : List Oper) (Q : Exit → Act → World → Prop) (n : Nat) : Array Bool → Act → World → Prop := fun listed a w =>
 Region.seqB .any l.toArray (l.length - n) n listed = true ∧ wpList P l.toArray Q (l.drop n) a w
def tailB (l : List Oper) (n : Nat) : Bool := Region.noSelect l.toArray && decide (n < l.length) && Region.sinkB .any l.toArray n && Region.chainB .any l.toArray n
variable {l : List Oper}
theorem q0i {i : Nat} {oi : Oper} {v : Value} {f : Nat} {listed : Array Bool} {a : Act} {w : World} (hi : l.toArray[i]? = some oi) (ht : tailB l n = true) (hin : decide (i < n) = true) (hb : headB .any l.toArray n listed = true)
  (hf : Region.free .any l.toArray listed i = true) (hr : (Region.ready .any l.toArray listed).contains i = true) (hQ : ∀ c a w, Q (.panic c) (a.put oi.dst v) w → Q (.panic c) a w) (hy : YieldsIf P l.toArray S oi v a) (hS : S w)
  (h : wpHT P .any l.toArray Q S n (TailL P l Q n) f (listed.setIfInBounds i true) (a.put oi.dst v) w) : wpHT P .any l.toArray Q S n (TailL P l Q n) (f + 1) listed a w := by
 simp only [tailB, Bool.and_eq_true, decide_eq_true_eq] at ht;obtain ⟨⟨⟨h1, h2⟩, h3⟩, h4⟩ := ht;exact wpHT_first hi (Region.noSelect_spec h1) hQ h3 h4 (by simpa using h2) (of_decide_eq_true hin) (fun listed a w hL => seqB_ready hL.1) f listed a w (headB_spec hb) (Region.free_spec hi hf) (by simpa using hr) hy hS h
def HTready (P : Program) (ops : Array Oper) (Q : Exit → Act → World → Prop) (S : World → Prop) (n : Nat) (L : Array Bool → Act → World → Prop) (f : Nat) (listed : Array Bool) (a : Act) (w : World) (rs : List Nat) : Prop :=
 ∀ i ∈ rs, i < n ∧ wpOp P ops Q i (fun a' w' => S w' ∧ wpHT P .any ops Q S n L f (listed.setIfInBounds i true) a' w') a w
theorem HTready.nil {f : Nat} {listed : Array Bool} {a : Act} {w : World} : HTready P ops Q S n L f listed a w [] := fun _ h => by cases h
theorem HTready.cons {f : Nat} {listed : Array Bool} {a : Act} {w : World} {i : Nat} {o : Oper} {rs : List Nat} (ho : ops[i]? = some o) (hin : decide (i < n) = true)
  (h : ∀ K' : Act → World → Prop, Shut (∀ a w, S w → (S w → wpHT P .any ops Q S n L f (listed.setIfInBounds i true) a w) → K' a w) → if Region.wanted o (yielded ops a.tmps) = true then Oper.wp P o a w K' Q else K' (a.put o.dst undef) w)
  (hs : HTready P ops Q S n L f listed a w rs) : HTready P ops Q S n L f listed a w (i :: rs) := fun j hj => by
 rcases List.mem_cons.1 hj with rfl | hj
 ·exact ⟨of_decide_eq_true hin, wpOp_step ho (fun K' hK => h K' (fun a w hS hW => hK a w ⟨hS, hW hS⟩))⟩
 ·exact hs j hj
theorem q0r {rs : List Nat} {f : Nat} {listed : Array Bool} {a : Act} {w : World} (hr : Region.ready .any ops listed = rs) (hne : rs ≠ []) (h : HTready P ops Q S n L f listed a w rs) : wpHT P .any ops Q S n L (f + 1) listed a w :=
 ⟨by rw [hr]; exact hne, by rw [hr]; exact h⟩
theorem q2n {id : Nat} {a : Act} {w : World} (n : Nat) (hm : P.follows .mixedOrders = true) (hB : tailB l n = true) (hS : S w.drew)
  (h : S w.drew → wpHT P .any l.toArray Q S n (TailL P l Q n) n (Array.replicate l.toArray.size false) a w.drew) : (Code.region id l.toArray true).wp P Q a w := by
 simp only [tailB, Bool.and_eq_true, decide_eq_true_eq] at hB;have hn := hB.1.1.2;refine wp_region_any hm ?_;have hdl : (l.drop n).length = l.length - n := by simp
 have := wpAny_of_HT (g := l.length - n) (fun listed a' w' hL => by
  have q := wpAny_of_seq (md := .any) (Q' := Q) (l.drop n) n listed a' w' (fun j => by simp [List.getElem?_drop]) (by rw [hdl]; exact hL.1) hL.2;rwa [hdl] at q) _ _ _ _ (h hS)
 rwa [show n + (l.length - n) = l.toArray.size by simp; omega] at this
end
end Go.Proofs.YtlekjkljajeodaaGreat
namespace Go.Proofs.YtlekjkljajeodaaGreat
open Go
section
variable {P : Program} {ops : Array Oper} {Q : Exit → Act → World → Prop}
def unl (m : Nat) (listed : Array Bool) : Nat := (List.range m).countP fun j => !(listed.getD j true)
theorem unl_set {m i : Nat} {listed : Array Bool} (hi : i < m) (h : listed.getD i true = false) : unl m (listed.setIfInBounds i true) + 1 = unl m listed := by
 have hsz : i < listed.size := by
  rcases Nat.lt_or_ge i listed.size with h' | h'
  ·exact h'
  ·rw [Array.getD_eq_getD_getElem?, Array.getElem?_eq_none h'] at h; simp at h
 unfold unl
 induction m with
 | zero => omega
 | succ m ih =>
  rw [List.range_succ, List.countP_append, List.countP_append];by_cases him : i = m
  ·subst him
   have e : (List.range i).countP (fun j => !((listed.setIfInBounds i true).getD j true)) = (List.range i).countP fun j => !(listed.getD j true) := by
    refine List.countP_congr fun j hj => ?_;rw [Go.getD_set_ne true (by have := List.mem_range.1 hj; omega)]
   rw [e];have e2 : (listed.setIfInBounds i true).getD i true = true := (by simp [hsz]);simp only [List.countP_cons, List.countP_nil, e2, h, Bool.not_true, Bool.not_false];simp
  ·have := ih (by omega);have e2 : (listed.setIfInBounds i true).getD m true = listed.getD m true := Go.getD_set_ne true him;simp only [List.countP_cons, List.countP_nil, e2];omega
theorem unl_zero {m : Nat} {listed : Array Bool} (h : unl m listed = 0) : ∀ j, j < m → listed.getD j true = true := by
 intro j hj;unfold unl at h;rw [List.countP_eq_zero] at h;have := h j (List.mem_range.2 hj);simpa using this
def orderB (ops : Array Oper) : Bool := (List.range ops.size).all fun j => match ops[j]? with | some o => o.after.all fun e => !(Region.binds .any e) || decide (e.on < j) | none => true
theorem none_ready {listed : Array Bool} (ho : orderB ops = true) (hs : listed.size = ops.size) (h : Region.ready .any ops listed = []) : ∀ j, j < ops.size → listed.getD j true = true := by
 intro j
 induction j using Nat.strongRecOn with
 | _ j ih =>
  intro hj
  cases hl : listed.getD j true with
  | true => rfl
  | false =>
   exfalso
   have hr : j ∈ Region.ready .any ops listed := by
    refine mem_ready.2 ⟨hl, ops[j], Array.getElem?_eq_getElem hj, fun e he hb => ?_⟩;have q := List.all_eq_true.1 ho j (List.mem_range.2 hj);rw [Array.getElem?_eq_getElem hj] at q;have q2 := Array.all_eq_true_iff_forall_mem.1 q e he;simp only [hb, Bool.not_true, Bool.false_or, decide_eq_true_eq] at q2;have q3 := ih e.on q2 (by omega);have hsz : e.on < listed.size := (by omega);simpa [hsz] using q3
   rw [h] at hr;cases hr
theorem getD_tf {listed : Array Bool} {m j : Nat} (hs : listed.size = m) (hj : j < m) (h : listed.getD j true = true) : listed.getD j false = true := by
 have : j < listed.size := (by omega);simpa [this] using h
theorem q0d {listed : Array Bool} {i d : Nat} (hw : Region.waitsFor .any ops i d = true) {o : Oper} (hi : ops[i]? = some o) (hd : ∀ e ∈ o.after, Region.binds .any e = true → listed.getD e.on false = true) : listed.getD d false = true := by
 obtain ⟨oj, hj, e, he, hb, hon⟩ := Region.waitsFor_spec hw;rw [hi] at hj;cases hj
 rw [← hon];exact hd e he hb
theorem wpAnyI (Inv : Array Bool → Act → World → Prop) (ho : orderB ops = true)
  (hstep : ∀ listed a w, Inv listed a w → ∀ i o, ops[i]? = some o → listed.getD i true = false → (∀ e ∈ o.after, Region.binds .any e = true → listed.getD e.on false = true) → wpOp P ops Q i (fun a' w' => Inv (listed.setIfInBounds i true) a' w') a w)
  (hend : ∀ listed a w, Inv listed a w → (∀ j, j < ops.size → listed.getD j false = true) → Q .normal a w) :
  ∀ (f : Nat) (listed : Array Bool) (a : Act) (w : World), listed.size = ops.size → unl ops.size listed ≤ f → Inv listed a w → wpAny P .any ops Q f listed a w
 | 0, listed, a, w, hs, hu, hI => by
  have hall := unl_zero (m := ops.size) (listed := listed) (by omega);refine ⟨?_, hend _ _ _ hI fun j hj => getD_tf hs hj (hall j hj)⟩;refine List.eq_nil_iff_forall_not_mem.2 fun j hj => ?_;obtain ⟨h1, o, h2, -⟩ := mem_ready.1 hj;rw [hall j (Array.getElem?_eq_some_iff.1 h2).1] at h1;cases h1
 | f + 1, listed, a, w, hs, hu, hI => by
  refine ⟨fun h => hend _ _ _ hI fun j hj => getD_tf hs hj (none_ready ho hs h j hj), fun i hi => ?_⟩;obtain ⟨h1, o, h2, h3⟩ := mem_ready.1 hi;have hi' := (Array.getElem?_eq_some_iff.1 h2).1;refine wpOp_mono (fun a' w' h => wpAnyI Inv ho hstep hend f _ a' w' (by simp [hs]) (by have := unl_set hi' h1; omega) h) (hstep _ _ _ hI i o h2 h1 h3)
theorem wp_region_I {id : Nat} {a : Act} {w : World} (hm : P.follows .mixedOrders = true) (ho : orderB ops = true) (Inv : Array Bool → Act → World → Prop) (h0 : Inv (Array.replicate ops.size false) a w.drew)
  (hstep : ∀ listed a w, Inv listed a w → ∀ i o, ops[i]? = some o → listed.getD i true = false → (∀ e ∈ o.after, Region.binds .any e = true → listed.getD e.on false = true) → wpOp P ops Q i (fun a' w' => Inv (listed.setIfInBounds i true) a' w') a w)
  (hend : ∀ listed a w, Inv listed a w → (∀ j, j < ops.size → listed.getD j false = true) → Q .normal a w) : (Code.region id ops true).wp P Q a w := by
 refine wp_region_any hm (wpAnyI Inv ho hstep hend _ _ _ _ (by simp) ?_ h0);unfold unl;refine Nat.le_trans (List.countP_le_length) (by simp)
theorem q0c {i : Nat} {o : Oper} {K : Act → World → Prop} {a : Act} {w : World} (ho : ops[i]? = some o)
  (h : ∀ K' : Act → World → Prop, Shut (∀ a w, K a w → K' a w) → if Region.wanted o (yielded ops a.tmps) = true then Oper.wp P o a w K' Q else K' (a.put o.dst undef) w) : wpOp P ops Q i K a w :=
 wpOp_step ho fun K' hK => h K' hK
theorem put_getD (a : Act) (s : Nat) : a.put (some s) (a.tmps.getD s undef) = a := by
 unfold Act.put
 have h : a.tmps.setIfInBounds s (a.tmps.getD s undef) = a.tmps := by
  apply Array.ext_getElem?
  intro j;rw [Array.getElem?_setIfInBounds];split
  ·next e =>
   subst e;split
   ·next hs => rw [Array.getElem?_eq_getElem hs]; rfl
   ·next hs => rw [Array.getElem?_eq_none (by omega)]
  ·rfl
 simp only [h]
theorem q1q {id : Nat} {a : Act} {w : World} (hm : P.follows .mixedOrders = true) (ho : orderB ops = true) (Inv : Act → Array Bool → Act → World → Prop) (h0 : ∀ a0, Inv a0 (Array.replicate ops.size false) a0 w.drew)
  (hstep : ∀ listed a' w', Inv a listed a' w' → ∀ i o, ops[i]? = some o → listed.getD i true = false → (∀ e ∈ o.after, Region.binds .any e = true → listed.getD e.on false = true) → wpOp P ops Q i (fun a' w' => Inv a (listed.setIfInBounds i true) a' w') a' w')
  (hend : ∀ listed a' w', Inv a listed a' w' → (∀ j, j < ops.size → listed.getD j false = true) → Q .normal a' w') : (Code.region id ops true).wp P Q a w := wp_region_I hm ho (Inv a) (h0 a) hstep hend
end
end Go.Proofs.YtlekjkljajeodaaGreat
namespace Go.Proofs.YtlekjkljajeodaaGreat
open Go.RowKit
def IsF (w : World) (v : Value) (q : Rat) : Prop := ∃ A c B d, v = .agg #[.bool (frQ q).1.1, .slice A (frQ q).1.2.length c, .bool (frQ q).2.1, .slice B (frQ q).2.2.length d] ∧ Sl w A (frQ q).1.2 c ∧ Sl w B (frQ q).2.2 d
def Is2 (w : World) (v : Value) (p q : Rat) : Prop := ∃ A c B d A' c' B' d', v = .tuple #[.agg #[.bool (frQ p).1.1, .slice A (frQ p).1.2.length c, .bool (frQ p).2.1, .slice B (frQ p).2.2.length d], .agg #[.bool (frQ q).1.1, .slice A' (frQ q).1.2.length c', .bool (frQ q).2.1, .slice B' (frQ q).2.2.length d']] ∧ Sl w A (frQ p).1.2 c ∧ Sl w B (frQ p).2.2 d ∧ Sl w A' (frQ q).1.2 c' ∧ Sl w B' (frQ q).2.2 d'
def IsB (b : Nat) (w : World) (v : Value) : Prop := ∃ g n1 A1 m1 c1 n2 A2 m2 c2, v = .pointer (some ⟨g, 0, none⟩) ∧ b ≤ g ∧ Cf w g n1 A1 m1 c1 n2 A2 m2 c2 ∧ Ff w g
def IsS (w : World) (v : Value) (q : Rat) : Prop := ∃ g A c B d, v = .pointer (some ⟨g, 0, none⟩) ∧ BxQ w g q A c B d
section
variable {w w' : World} {v : Value} {p q : Rat} {b g' : Nat} {n1 n2 : Bool} {A1 A2 : Option Addr} {m1 c1 m2 c2 : Nat}
theorem IsF.keep (h : IsF w v q) (hb : Below w.heap.size w w') : IsF w' v q := by
 obtain ⟨A, c, B, d, e, s, t⟩ := h;exact ⟨A, c, B, d, e, s.below hb, t.below hb⟩
theorem Is2.keep (h : Is2 w v p q) (hb : Below w.heap.size w w') : Is2 w' v p q := by
 obtain ⟨A, c, B, d, A', c', B', d', e, s, t, s', t'⟩ := h;exact ⟨A, c, B, d, A', c', B', d', e, s.below hb, t.below hb, s'.below hb, t'.below hb⟩
theorem IsB.keep (h : IsB b w v) (hb : Below w.heap.size w w') : IsB b w' v := by
 obtain ⟨g, n1, A1, m1, c1, n2, A2, m2, c2, e, hg, k, f⟩ := h;exact ⟨g, n1, A1, m1, c1, n2, A2, m2, c2, e, hg, k.keep hb, f.keep k hb⟩
theorem IsS.keep (h : IsS w v q) (hb : Below w.heap.size w w') : IsS w' v q := by
 obtain ⟨g, A, c, B, d, e, x⟩ := h;exact ⟨g, A, c, B, d, e, x.keep hb⟩
theorem IsF.st (h : IsF w v q) (k : Cf w g' n1 A1 m1 c1 n2 A2 m2 c2) (x y z u : Value) : IsF (((((w).setCell ⟨g', 0, none⟩ (x)).setCell ⟨g', 1, none⟩ (y)).setCell ⟨g', 2, none⟩ (z)).setCell ⟨g', 3, none⟩ (u)) v q := by
 obtain ⟨A, c, B, d, e, s, t⟩ := h;exact ⟨A, c, B, d, e, s.setF k x y z u, t.setF k x y z u⟩
theorem Is2.st (h : Is2 w v p q) (k : Cf w g' n1 A1 m1 c1 n2 A2 m2 c2) (x y z u : Value) : Is2 (((((w).setCell ⟨g', 0, none⟩ (x)).setCell ⟨g', 1, none⟩ (y)).setCell ⟨g', 2, none⟩ (z)).setCell ⟨g', 3, none⟩ (u)) v p q := by
 obtain ⟨A, c, B, d, A', c', B', d', e, s, t, s', t'⟩ := h;exact ⟨A, c, B, d, A', c', B', d', e, s.setF k x y z u, t.setF k x y z u, s'.setF k x y z u, t'.setF k x y z u⟩
theorem IsS.st (h : IsS w v q) (k : Cf w g' n1 A1 m1 c1 n2 A2 m2 c2) (hne : v ≠ .pointer (some ⟨g', 0, none⟩)) (x y z u : Value) : IsS (((((w).setCell ⟨g', 0, none⟩ (x)).setCell ⟨g', 1, none⟩ (y)).setCell ⟨g', 2, none⟩ (z)).setCell ⟨g', 3, none⟩ (u)) v q := by
 obtain ⟨g, A, c, B, d, rfl, hx⟩ := h;exact ⟨g, A, c, B, d, rfl, hx.far k (fun e => hne (by rw [e])) x y z u⟩
theorem IsB.st (h : IsB b w v) (hne : v ≠ .pointer (some ⟨g', 0, none⟩)) (x y z u : Value) : IsB b (((((w).setCell ⟨g', 0, none⟩ (x)).setCell ⟨g', 1, none⟩ (y)).setCell ⟨g', 2, none⟩ (z)).setCell ⟨g', 3, none⟩ (u)) v := by
 obtain ⟨g, n1, A1, m1, c1, n2, A2, m2, c2, rfl, hg, kk, f⟩ := h;exact ⟨g, n1, A1, m1, c1, n2, A2, m2, c2, rfl, hg, kk.farF (fun e => hne (by rw [e])) x y z u, f.putF x y z u⟩
theorem IsB.fresh (hb : b ≤ w.heap.size) : IsB b (w.alloc (.cells #[.bool false, .slice none 0 0, .bool false, .slice none 0 0] 67)) (.pointer (some ⟨w.heap.size, 0, none⟩)) :=
 ⟨_, false, none, 0, 0, false, none, 0, 0, rfl, hb, Cf.fresh rfl _ _ _ _ _ _ _ _ _, Ff.fresh rfl _ _⟩
theorem IsB.ne (h : IsB b w v) : v ≠ .pointer (some ⟨w.heap.size, 0, none⟩) := by
 obtain ⟨g, n1, A1, m1, c1, n2, A2, m2, c2, rfl, hg, k, f⟩ := h;intro e;have h1 := lt_of_cell (a := ⟨g, 0, none⟩) k.1;injection e with e; injection e with e; injection e with e
 have h1 : g < w.heap.size := h1;omega
end
theorem gn {l : Array Bool} {i j : Nat} (h : (l.setIfInBounds i true).getD j false = true) (hij : i ≠ j := by decide) : l.getD j false = true := by rwa [Go.getD_set_ne false hij] at h
theorem gs {l : Array Bool} {i j : Nat} (h : l.getD j false = true) (hij : i ≠ j := by decide) : (l.setIfInBounds i true).getD j false = true := by rwa [Go.getD_set_ne false hij]
theorem g0 {m j : Nat} {P : Prop} (h : (Array.replicate m false).getD j false = true) : P := by rw [getD_replicate_false] at h; cases h
theorem tk {P : Program} {ops : Array Oper} {Q : Exit → Act → World → Prop} {md : Region.Mode} {S : World → Prop} {oi : Oper} {fuel : Nat} {listed : Array Bool} {a : Act} {w : World} (i : Nat) (v : Value) (hi : ops[i]? = some oi)
    (h : wpAnyH P md ops Q S fuel (listed.setIfInBounds i true) (a.put oi.dst v) w) (hs : Region.noSelect ops = true := by kernel_rfl) (hf : Region.free md ops listed i = true := by kernel_rfl) (hr : (Region.ready md ops listed).contains i = true := by kernel_rfl)
    (hy : YieldsIf P ops S oi v a := by exact Or.inl ⟨by rfl, by intro w hSw; (try dsimp only at hSw); go_simp⟩) (hS : S w := by assumption) (hQ : ∀ c a w, Q (.panic c) (a.put oi.dst v) w → Q (.panic c) a w := by exact fun _ _ _ h => h) : wpAnyH P md ops Q S (fuel + 1) listed a w :=
  wpAnyH_take hi hs hf hr hQ hy hS h
end Go.Proofs.YtlekjkljajeodaaGreat
import Derived.Test.YtlekjkljajeodaaGreatMg6
namespace Go.Proofs.YtlekjkljajeodaaGreat
theorem den_mul (q : Rat) : q * (((q.den : Nat) : Int) : Rat) = (q.num : Rat) := by
 have h1 := Rat.num_divInt_den q;rw [Rat.divInt_eq_div] at h1
 have hd : (((q.den : Nat) : Int) : Rat) ≠ 0 := by
  intro h;have : ((q.den : Nat) : Int) = 0 := (by exact_mod_cast h);have := q.den_pos;omega
 have h2 := Rat.div_mul_cancel (a := (q.num : Rat)) hd;rw [h1] at h2;exact h2
theorem ivLo_floor (q : Rat) : ivLo q = (q * 1099511627776).floor := by
 have key : ∀ z : Int, z ≤ ivLo q ↔ z ≤ (q * 1099511627776).floor := fun z => by
  rw [Rat.le_floor_iff];have hd := q1j q;have h0 := den_mul q;obtain ⟨r1, r2, r3⟩ := dm_parts (x := q.num * 1099511627776) hd;have hdR : (0 : Rat) < (((q.den : Nat) : Int) : Rat) := by exact_mod_cast hd
  have e1 : (z : Rat) ≤ q * 1099511627776 ↔ z * ((q.den : Nat) : Int) ≤ q.num * 1099511627776 := by
   have e2 : (z * ((q.den : Nat) : Int) ≤ q.num * 1099511627776) ↔ ((z : Rat) * (((q.den : Nat) : Int) : Rat) ≤ (q.num : Rat) * 1099511627776) := by
    rw [← Rat.intCast_le_intCast, Rat.intCast_mul, Rat.intCast_mul]; rfl
   rw [e2, ← h0];generalize (((q.den : Nat) : Int) : Rat) = d at *;constructor
   ·intro h;have := Rat.mul_le_mul_of_nonneg_right h (Rat.le_of_lt hdR);grind
   ·intro h;apply Rat.not_lt.1
    intro h2;have := Rat.mul_pos (a := z - q * 1099511627776) (b := d) (by grind) hdR;grind
  rw [e1];unfold ivLo;generalize (q.num * 1099511627776).fdiv ((q.den : Nat) : Int) = a at *;generalize (q.num * 1099511627776).fmod ((q.den : Nat) : Int) = r at *;generalize ((q.den : Nat) : Int) = d at *;generalize q.num * 1099511627776 = n at *;constructor
  ·intro h;have := Int.mul_le_mul_of_nonneg_right h (Int.le_of_lt hd);grind
  ·intro h;apply Int.not_lt.1
   intro h2;have := Int.mul_le_mul_of_nonneg_right (show a + 1 ≤ z by omega) (Int.le_of_lt hd);grind
 have a := (key (ivLo q)).1 (Int.le_refl _);have b := (key _).2 (Int.le_refl _);omega
theorem ivRem_zero (q : Rat) : ivRem q = 0 ↔ ((ivLo q : Int) : Rat) = q * 1099511627776 := by
 have hd := q1j q;have h0 := den_mul q;obtain ⟨r1, r2, r3⟩ := dm_parts (x := q.num * 1099511627776) hd;unfold ivLo ivRem;have hdR : (0 : Rat) < (((q.den : Nat) : Int) : Rat) := by exact_mod_cast hd
 have e3 : (((q.den : Nat) : Int) : Rat) * (((q.num * 1099511627776).fdiv ((q.den : Nat) : Int) : Int) : Rat) + (((q.num * 1099511627776).fmod ((q.den : Nat) : Int) : Int) : Rat) = (q.num : Rat) * 1099511627776 := by
  have h : ((((q.den : Nat) : Int) * (q.num * 1099511627776).fdiv ((q.den : Nat) : Int) + (q.num * 1099511627776).fmod ((q.den : Nat) : Int) : Int) : Rat) = ((q.num * 1099511627776 : Int) : Rat) := (by rw [r3]);rw [Rat.intCast_add, Rat.intCast_mul, Rat.intCast_mul] at h;exact h
 generalize (q.num * 1099511627776).fdiv ((q.den : Nat) : Int) = a at *;generalize (q.num * 1099511627776).fmod ((q.den : Nat) : Int) = r at *;rw [← h0] at e3;generalize (((q.den : Nat) : Int) : Rat) = d at *;constructor
 ·intro h;subst h;have e4 : d * (((a : Int) : Rat) - q * 1099511627776) = 0 := (by simp at e3; grind);rcases Rat.mul_eq_zero.1 e4 with h | h
  ·grind
  ·grind
 ·intro h;have : ((r : Int) : Rat) = 0 := (by rw [h] at e3; grind);exact_mod_cast this
theorem ivHi_ceil (q : Rat) : ivHi q = (q * 1099511627776).ceil := by
 have hr := ivRem_zero q;have f1 := Rat.le_floor_iff (x := ivLo q) (a := q * 1099511627776);rw [← ivLo_floor] at f1;have f2 := Rat.le_floor_iff (x := ivLo q + 1) (a := q * 1099511627776);rw [← ivLo_floor] at f2;have f1' := f1.1 (Int.le_refl _);have f2' : ¬ (((ivLo q + 1 : Int) : Rat) ≤ q * 1099511627776) := fun h => by have := f2.2 h; omega
 have key : ∀ z : Int, ivHi q ≤ z ↔ (q * 1099511627776).ceil ≤ z := fun z => by
  rw [Rat.ceil_le_iff];unfold ivHi;split
  ·rename_i h
   rw [← hr.1 h, Rat.intCast_le_intCast]
  ·rename_i h
   rw [Rat.intCast_add] at f2';have hne : ((ivLo q : Int) : Rat) ≠ q * 1099511627776 := fun h2 => h (hr.2 h2);constructor
   ·intro h3;have h4 : ((ivLo q + 1 : Int) : Rat) ≤ (z : Rat) := Rat.intCast_le_intCast.2 h3;rw [Rat.intCast_add] at h4;grind
   ·intro h3;have h4 : ((ivLo q : Int) : Rat) < (z : Rat) := (by grind);have := Rat.intCast_lt_intCast.1 h4;omega
 have a := (key (ivHi q)).1 (Int.le_refl _);have b := (key _).2 (Int.le_refl _);omega
theorem unit_mul (v : Rat) : v * Rat.divInt 1 1099511627776 * 1099511627776 = v := by
 rw [Rat.divInt_eq_div];have h := Rat.div_mul_cancel (a := (((1 : Int)) : Rat)) (b := ((1099511627776 : Int) : Rat)) (by decide);have e : (((1 : Int)) : Rat) / ((1099511627776 : Int) : Rat) * (1099511627776 : Rat) = 1 := h;rw [Rat.mul_assoc, e, Rat.mul_one]
def unS (v : Rat) : Int × Int × Int := if v.floor < -2305843009213693952 ∨ 2305843009213693952 < v.ceil then (0, 0, 16) else (v.floor, v.ceil, 0)
theorem unS_eq (v : Rat) : ivS (v * Rat.divInt 1 1099511627776) = unS v := by
 unfold ivS unS;rw [ivLo_floor, ivHi_ceil, unit_mul]
theorem unS_ok {v : Rat} {m : Int} (hm : m ≤ 2305843009213693952) (h1 : -(m : Rat) ≤ v) (h2 : v ≤ (m : Rat)) : unS v = (v.floor, v.ceil, 0) := by
 unfold unS;rw [if_neg];have a : -m ≤ v.floor := Rat.le_floor_iff.2 (by rw [Rat.intCast_neg]; exact h1);have b : v.ceil ≤ m := Rat.ceil_le_iff.2 h2;omega
end Go.Proofs.YtlekjkljajeodaaGreat
namespace Go.Proofs.YtlekjkljajeodaaGreat
open Go.RowKit
structure V6 where
 l0 : Int
 h0 : Int
 l1 : Int
 h1 : Int
 l2 : Int
 h2 : Int
def zV6 : V6 := ⟨0, 0, 0, 0, 0, 0⟩
def xQ (s : SG) (t : Int) : Rat := Rat.divInt (2 * t - s.F - s.T) (s.T - s.F)
def byQ (s : SG) : Rat := Rat.divInt 172800000000 (s.T - s.F)
def vlQ (l : List Int) (x : Rat) : Rat := chS (cfQ l) (chT x) l.length
def spQ (l : List Int) (x : Rat) : Rat := chS (cfQ l) (chD x) l.length
def plV (s : SG) (t : Int) : V6 := ⟨(unS (vlQ s.l0 (xQ s t))).1, (unS (vlQ s.l0 (xQ s t))).2.1, (unS (vlQ s.l1 (xQ s t))).1, (unS (vlQ s.l1 (xQ s t))).2.1, (unS (vlQ s.l2 (xQ s t))).1, (unS (vlQ s.l2 (xQ s t))).2.1⟩
def allV (a b c : Int × Int × Int) : V6 × Int := if a.2.2 = 0 ∧ b.2.2 = 0 ∧ c.2.2 = 0 then (⟨a.1, a.2.1, b.1, b.2.1, c.1, c.2.1⟩, 0) else (zV6, 16)
def plR (s : SG) (t : Int) : V6 × Int := allV (unS (vlQ s.l0 (xQ s t))) (unS (vlQ s.l1 (xQ s t))) (unS (vlQ s.l2 (xQ s t)))
def spR (s : SG) (t : Int) : V6 × Int := allV (unS (spQ s.l0 (xQ s t) * byQ s)) (unS (spQ s.l1 (xQ s t) * byQ s)) (unS (spQ s.l2 (xQ s t) * byQ s))
def inS (t : Int) (s : SG) : Bool := decide (s.F ≤ t) && decide (t ≤ s.T)
def segOf (ss : List SG) (t : Int) : Option SG := ss.find? (inS t)
def getB (bs : List BG) (i : Int) : Option BG := if 0 ≤ i then bs[i.toNat]? else none
noncomputable def lkE (f : SG → V6 × Int) (bs : List BG) (i t : Int) : V6 × Int :=
 if chkE bs = 0 then match getB bs i with
  | none => (zV6, 6)
  | some b => match segOf b.ss t with
   | none => (zV6, 16)
   | some s => f s
 else (zV6, chkE bs)
noncomputable def plE (bs : List BG) (i t : Int) : V6 × Int := lkE (fun s => (plV s t, 0)) bs i t
noncomputable def spE (bs : List BG) (i t : Int) : V6 × Int := lkE (fun s => spR s t) bs i t
def grL (n lo mid hi : Nat) : Bool := (decide (lo < n) && decide (n ≤ mid)) || decide (hi < n)
def grS (s : SG) : Bool := grL s.l0.length 6 16 30 || grL s.l1.length 6 16 30 || grL s.l2.length 6 16 30
def grBd (b : BG) : Bool := decide (200 < b.nm.length) || grL b.ss.length 4 100 110 || b.ss.any grS
def grE (bs : List BG) : Bool := grL bs.length 4 12 20 || bs.any grBd
structure OkSeg (s : SG) : Prop where
 v : segB s = true
 n0 : s.l0.length ≤ 6
 n1 : s.l1.length ≤ 6
 n2 : s.l2.length ≤ 6
theorem grL_few {n lo mid hi : Nat} (h : grL n lo mid hi = false) (hn : n ≤ mid) : n ≤ lo := by
 unfold grL at h;simp only [Bool.or_eq_false_iff, Bool.and_eq_false_iff, decide_eq_false_iff_not] at h;omega
theorem ok_seg {bs : List BG} {b : BG} {s : SG} (h : grE bs = false) (hc : chkE bs = 0) (hb : b ∈ bs) (hs : s ∈ b.ss) : OkSeg s := by
 obtain ⟨-, h2, h3⟩ := chkE_ok hc;have hm := h2 b hb;unfold grE at h;simp only [Bool.or_eq_false_iff] at h;have h4 := List.any_eq_false.1 h.2 b hb;unfold grBd at h4;simp only [Bool.not_eq_true, Bool.or_eq_false_iff] at h4;have h5 := List.any_eq_false.1 h4.2 s hs;unfold grS at h5;simp only [Bool.not_eq_true, Bool.or_eq_false_iff] at h5;unfold manyB at hm;simp only [Bool.or_eq_false_iff] at hm;have h6 := List.any_eq_false.1 hm.2 s hs;unfold manyS at h6;simp only [Bool.not_eq_true, Bool.or_eq_false_iff, decide_eq_false_iff_not] at h6;obtain ⟨k, hk, rfl⟩ := List.getElem_of_mem hb;obtain ⟨j, hj, rfl⟩ := List.getElem_of_mem hs;exact ⟨(h3.b k hk).sg j hj, grL_few h5.1.1 (by omega), grL_few h5.1.2 (by omega), grL_few h5.2 (by omega)⟩
theorem div_mul {a b : Int} (hb : 0 < b) : Rat.divInt a b * (b : Rat) = (a : Rat) := by
 rw [Rat.divInt_eq_div];refine Rat.div_mul_cancel ?_;intro h;have : b = 0 := (by exact_mod_cast h);omega
theorem bd_of_div {a b m : Int} (hb : 0 < b) (h1 : -(m * b) ≤ a) (h2 : a ≤ m * b) : -(m : Rat) ≤ Rat.divInt a b ∧ Rat.divInt a b ≤ (m : Rat) := by
 have h := div_mul (a := a) hb;have hbR : (0 : Rat) < (b : Rat) := (by exact_mod_cast hb);have e1 : (-((m : Rat) * (b : Rat))) ≤ (a : Rat) := (by rw [← Rat.intCast_mul, ← Rat.intCast_neg]; exact Rat.intCast_le_intCast.2 h1);have e2 : (a : Rat) ≤ (m : Rat) * (b : Rat) := (by rw [← Rat.intCast_mul]; exact Rat.intCast_le_intCast.2 h2);generalize Rat.divInt a b = x at *;rw [← h] at e1 e2;constructor
 ·apply Rat.not_lt.1
  intro h3;have := Rat.mul_pos (a := -(m : Rat) - x) (b := (b : Rat)) (by grind) hbR;grind
 ·apply Rat.not_lt.1
  intro h3;have := Rat.mul_pos (a := x - (m : Rat)) (b := (b : Rat)) (by grind) hbR;grind
theorem xQ_bd {s : SG} {t : Int} (h : s.F < s.T) (h1 : s.F ≤ t) (h2 : t ≤ s.T) : -1 ≤ xQ s t ∧ xQ s t ≤ 1 := by
 have := bd_of_div (a := 2 * t - s.F - s.T) (b := s.T - s.F) (m := 1) (by omega) (by omega) (by omega);exact this
theorem cf_bd {l : List Int} (h : q2m l = true) (k : Nat) : -(1125899906842624 : Rat) ≤ cfQ l k ∧ cfQ l k ≤ 1125899906842624 := by
 unfold q2m at h;simp only [Bool.and_eq_true, List.all_eq_true] at h
 have key : -1125899906842624 ≤ l.getD k 0 ∧ l.getD k 0 ≤ 1125899906842624 := by
  rw [List.getD_eq_getElem?_getD];by_cases hk : k < l.length
  ·rw [List.getElem?_eq_getElem hk];have := h.2 _ (List.getElem_mem hk);unfold outB at this;simp only [Bool.not_eq_true', Bool.or_eq_false_iff, decide_eq_false_iff_not] at this;simp only [Option.getD_some];omega
  ·rw [List.getElem?_eq_none (by omega)]; simp
 unfold cfQ;have e1 := Rat.intCast_le_intCast.2 key.1;have e2 := Rat.intCast_le_intCast.2 key.2;exact ⟨e1, e2⟩
theorem vl_bd {l : List Int} {x : Rat} (h : q2m l = true) (hn : l.length ≤ 6) (h1 : -1 ≤ x) (h2 : x ≤ 1) : -((6755399441055744 : Int) : Rat) ≤ vlQ l x ∧ vlQ l x ≤ ((6755399441055744 : Int) : Rat) := by
 have hb := chS_bd h1 h2 (M := 1125899906842624) (c := cfQ l) (n := l.length) fun k _ => cf_bd h k;have hl : ((l.length : Nat) : Rat) ≤ 6 := (by exact_mod_cast hn);have h0 : (0 : Rat) ≤ ((l.length : Nat) : Rat) := (by exact_mod_cast Nat.zero_le _);unfold vlQ;generalize ((l.length : Nat) : Rat) = n at *
 have e : ((6755399441055744 : Int) : Rat) = 6 * 1125899906842624 := by
  rw [show (6755399441055744 : Int) = 6 * 1125899906842624 from rfl, Rat.intCast_mul]; rfl
 rw [e];constructor <;> grind
theorem vl_ok {l : List Int} {x : Rat} (h : q2m l = true) (hn : l.length ≤ 6) (h1 : -1 ≤ x) (h2 : x ≤ 1) : unS (vlQ l x) = ((vlQ l x).floor, (vlQ l x).ceil, 0) :=
 unS_ok (by decide) (vl_bd h hn h1 h2).1 (vl_bd h hn h1 h2).2
theorem plR_ok {s : SG} {t : Int} (h : OkSeg s) (h1 : s.F ≤ t) (h2 : t ≤ s.T) : plR s t = (plV s t, 0) := by
 have hv := h.v;unfold segB at hv;simp only [Bool.and_eq_true, decide_eq_true_eq] at hv;obtain ⟨x1, x2⟩ := xQ_bd hv.1.1.1.1.1 h1 h2;unfold plR allV plV;rw [vl_ok hv.1.1.2 h.n0 x1 x2, vl_ok hv.1.2 h.n1 x1 x2, vl_ok hv.2 h.n2 x1 x2, if_pos ⟨rfl, rfl, rfl⟩]
theorem segOf_in {ss : List SG} {t : Int} {s : SG} (h : segOf ss t = some s) : s ∈ ss ∧ s.F ≤ t ∧ t ≤ s.T := by
 have h1 := List.mem_of_find?_eq_some h;have h2 := List.find?_some h;unfold inS at h2;simp only [Bool.and_eq_true, decide_eq_true_eq] at h2;exact ⟨h1, h2⟩
theorem getB_mem {bs : List BG} {i : Int} {b : BG} (h : getB bs i = some b) : b ∈ bs := by
 unfold getB at h;split at h
 ·exact List.mem_of_getElem? h
 ·cases h
theorem lkE_pl {bs : List BG} (h : grE bs = false) (i t : Int) : lkE (fun s => plR s t) bs i t = plE bs i t := by
 unfold plE lkE;split
 ·rename_i hc
  cases hb : getB bs i with
  | none => rfl
  | some b =>
   cases hs : segOf b.ss t with
   | none => simp only [hs]
   | some s =>
    simp only [hs];obtain ⟨m, h1, h2⟩ := segOf_in hs;exact plR_ok (ok_seg h hc (getB_mem hb) m) h1 h2
 ·rfl
end Go.Proofs.YtlekjkljajeodaaGreat
namespace Go.Proofs.YtlekjkljajeodaaGreat
open Go.RowKit
def tB : Nat → Nat × Nat
 | 0 => (1, 2)
 | j + 1 => ((tB j).2, (tB j).1 + (tB j).2 + 5)
def dB : Nat → Nat × Nat
 | 0 => (1, 1)
 | j + 1 => ((dB j).2, (tB j).2 + (dB j).1 + (dB j).2 + 6)
def sB (f : Nat → Nat) : Nat → Nat
 | 0 => 1
 | n + 1 => sB f n + f n + 3
theorem few_one : Few 1 (1 : Rat) := ⟨by decide, by decide⟩
theorem few_none : Few 1 (0 : Rat) := ⟨by decide, by decide⟩
theorem few_twice : Few 1 (2 : Rat) := ⟨by decide, by decide⟩
theorem few_minus : Few 1 (-1 : Rat) := ⟨by decide, by decide⟩
section
variable {x : Rat} {c : Nat → Rat} (hx : Few 2 x)
include hx
theorem chT_few : ∀ j, (tB j).1 + (tB j).2 ≤ 3000 → Few (tB j).1 (chT x j) ∧ Few (tB j).2 (chT x (j + 1))
 | 0, _ => ⟨few_one, hx⟩
 | j + 1, h => by
  simp only [tB] at h;obtain ⟨h1, h2⟩ := chT_few j (by omega);have m1 := (q2r hx h2 (by omega)).2;have m2 := (q2r few_twice m1 (by omega)).2;have m3 := (q2r few_minus h1 (by omega)).2;have m4 := (q_add m2 m3 (by omega)).2;exact ⟨h2, m4.up (by simp only [tB]; omega)⟩
theorem chD_few : ∀ j, (tB j).1 + (tB j).2 ≤ 3000 → (tB j).2 + (dB j).1 + (dB j).2 ≤ 3000 → (∀ i, i ≤ j → (tB i).1 + (tB i).2 ≤ 3000 ∧ (tB i).2 + (dB i).1 + (dB i).2 ≤ 3000) → Few (dB j).1 (chD x j) ∧ Few (dB j).2 (chD x (j + 1))
 | 0, _, _, _ => ⟨few_none, few_one⟩
 | j + 1, _, _, ha => by
  obtain ⟨h1, h2⟩ := chD_few j (ha j (by omega)).1 (ha j (by omega)).2 (fun i hi => ha i (by omega));obtain ⟨-, t⟩ := chT_few hx j (ha j (by omega)).1;have hb := (ha j (by omega)).2;have m1 := (q2r hx h2 (by omega)).2;have m2 := (q_add t m1 (by omega)).2;have m3 := (q2r few_twice m2 (by omega)).2;have m4 := (q2r few_minus h1 (by omega)).2;have m5 := (q_add m3 m4 (by omega)).2;exact ⟨h2, m5.up (by simp only [dB]; omega)⟩
end
theorem chS_few {c P : Nat → Rat} {f : Nat → Nat} (hc : ∀ k, Few 2 (c k)) : ∀ n, (∀ k, k < n → Few (f k) (P k)) → (∀ k, k ≤ n → sB f k ≤ 3000) → (∀ k, k < n → f k ≤ 1000) → Few (sB f n) (chS c P n)
 | 0, _, _, _ => few_none
 | n + 1, hP, hs, hf => by
  have ih := chS_few hc n (fun k hk => hP k (by omega)) (fun k hk => hs k (by omega)) (fun k hk => hf k (by omega));have b1 := hs n (by omega);have b2 := hf n (by omega);have m1 := (q2r (hc n) (hP n (by omega)) (by omega)).2;have m2 := (q_add ih m1 (by omega)).2;exact m2.up (by simp only [sB]; omega)
structure FewV (l : List Int) (x : Rat) (j : Nat) : Prop where
 t : Few 700 (chT x j)
 d : Few 700 (chD x j)
 s : Few 700 (chS (cfQ l) (chT x) j)
 e : Few 700 (chS (cfQ l) (chD x) j)
theorem few_v {l : List Int} {x : Rat} (hc : ∀ k, Few 2 (cfQ l k)) (hx : Few 2 x) {j : Nat} (hj : j ≤ 6) : FewV l x j := by
 have a : ∀ i, i ≤ 6 → (tB i).1 + (tB i).2 ≤ 3000 ∧ (tB i).2 + (dB i).1 + (dB i).2 ≤ 3000 := (by decide);have b : ∀ i, i ≤ 6 → (tB i).1 ≤ 700 ∧ (dB i).1 ≤ 700 ∧ sB (fun i => (tB i).1) i ≤ 700 ∧ sB (fun i => (dB i).1) i ≤ 700 := (by decide);have hT : ∀ i, i ≤ 6 → Few (tB i).1 (chT x i) := fun i hi => (chT_few hx i (a i hi).1).1;have hD : ∀ i, i ≤ 6 → Few (dB i).1 (chD x i) := fun i hi => (chD_few hx i (a i hi).1 (a i hi).2 (fun k hk => a k (by omega))).1;have hb := b j hj
 exact ⟨(hT j hj).up hb.1, (hD j hj).up hb.2.1,
  (chS_few hc j (fun k hk => hT k (by omega)) (fun k hk => by have := (b k (by omega)).2.2.1; omega) (fun k hk => by have := (b k (by omega)).1; omega)).up hb.2.2.1,
  (chS_few hc j (fun k hk => hD k (by omega)) (fun k hk => by have := (b k (by omega)).2.2.2; omega) (fun k hk => by have := (b k (by omega)).2.1; omega)).up hb.2.2.2⟩
def atI (ss : List SG) (t : Int) : Int := match ss.findIdx? (inS t) with | some k => k | none => -1
noncomputable def hasE (bs : List BG) (i : Int) : Int := if chkE bs = 0 then (if 0 ≤ i ∧ i < bs.length then 0 else 6) else chkE bs
theorem getB_some {bs : List BG} {i : Int} (h : 0 ≤ i ∧ i < bs.length) : getB bs i = some (bs[i.toNat]'(by omega)) := by
 unfold getB; rw [if_pos h.1, List.getElem?_eq_getElem]
theorem getB_none {bs : List BG} {i : Int} (h : ¬ (0 ≤ i ∧ i < bs.length)) : getB bs i = none := by
 unfold getB;split
 ·rw [List.getElem?_eq_none]; omega
 ·rfl
theorem atI_found {ss : List SG} {t : Int} {k : Nat} (hk : k < ss.length) (hn : ∀ s ∈ ss.take k, inS t s = false) (h : inS t (ss[k]'hk) = true) : atI ss t = k ∧ segOf ss t = some (ss[k]'hk) := by
 have h1 : ss.findIdx? (inS t) = some k := by
  rw [List.findIdx?_eq_some_iff_getElem];refine ⟨hk, h, fun j hj => ?_⟩
  have := hn (ss[j]'(by omega)) (by
   rw [List.mem_take_iff_getElem];exact ⟨j, by omega, rfl⟩)
  simp [this]
 refine ⟨by unfold atI; rw [h1], ?_⟩;unfold segOf;rw [List.find?_eq_some_iff_getElem];refine ⟨h, k, hk, rfl, fun j hj => ?_⟩
 have := hn (ss[j]'(by omega)) (by
  rw [List.mem_take_iff_getElem];exact ⟨j, by omega, rfl⟩)
 simp [this]
theorem atI_none {ss : List SG} {t : Int} (hn : ∀ s ∈ ss, inS t s = false) : atI ss t = -1 ∧ segOf ss t = none := by
 have h1 : ss.findIdx? (inS t) = none := by
  rw [List.findIdx?_eq_none_iff];intro s hs; rw [hn s hs]
 refine ⟨by unfold atI; rw [h1], ?_⟩;unfold segOf;rw [List.find?_eq_none];intro s hs; rw [hn s hs]; decide
theorem atI_cases (ss : List SG) (t : Int) : (∃ k, ∃ hk : k < ss.length, atI ss t = k ∧ segOf ss t = some (ss[k]'hk) ∧ inS t (ss[k]'hk) = true) ∨ (atI ss t = -1 ∧ segOf ss t = none) := by
 cases h : ss.findIdx? (inS t) with
 | some k =>
  obtain ⟨hk, h1, h2⟩ := List.findIdx?_eq_some_iff_getElem.1 h;left
  have := atI_found (t := t) hk (fun s hs => by
   obtain ⟨j, hj, rfl⟩ := List.mem_take_iff_getElem.1 hs;have := h2 j (by omega);simpa using this) h1
  exact ⟨k, hk, this.1, this.2, h1⟩
 | none =>
  right
  exact atI_none fun s hs => List.findIdx?_eq_none_iff.1 h s hs
end Go.Proofs.YtlekjkljajeodaaGreat
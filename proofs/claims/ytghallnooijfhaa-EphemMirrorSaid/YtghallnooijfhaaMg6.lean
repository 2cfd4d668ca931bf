import Derived.Test.YtghallnooijfhaaEphC
import Derived.Test.YtghallnooijfhaaMg1
import Derived.Test.YtghallnooijfhaaMg5
namespace Go.Proofs.Ytghallnooijfhaa
open Go.RowKit
/-- A place, or a speed: three intervals. -/
structure V6 where
  l0 : Int
  h0 : Int
  l1 : Int
  h1 : Int
  l2 : Int
  h2 : Int

def zV6 : V6 := ⟨0, 0, 0, 0, 0, 0⟩

def V6.val (v : V6) : Value := .agg #[.int .i64 v.l0, .int .i64 v.h0, .int .i64 v.l1, .int .i64 v.h1, .int .i64 v.l2, .int .i64 v.h2]

/-- The time in a segment, from -1 to 1. -/
def xQ (s : SG) (t : Int) : Rat := Rat.divInt (2 * t - s.F - s.T) (s.T - s.F)

def byQ (s : SG) : Rat := Rat.divInt 172800000000 (s.T - s.F)

def vlQ (l : List Int) (x : Rat) : Rat := chS (cfQ l) (chT x) l.length

def spQ (l : List Int) (x : Rat) : Rat := chS (cfQ l) (chD x) l.length

def plV (s : SG) (t : Int) : V6 := ⟨(unS (vlQ s.l0 (xQ s t))).1, (unS (vlQ s.l0 (xQ s t))).2.1, (unS (vlQ s.l1 (xQ s t))).1, (unS (vlQ s.l1 (xQ s t))).2.1, (unS (vlQ s.l2 (xQ s t))).1, (unS (vlQ s.l2 (xQ s t))).2.1⟩

/-- Three intervals, or the error of one. -/
def allV (a b c : Int × Int × Int) : V6 × Int := if a.2.2 = 0 ∧ b.2.2 = 0 ∧ c.2.2 = 0 then (⟨a.1, a.2.1, b.1, b.2.1, c.1, c.2.1⟩, 0) else (zV6, 16)

def spR (s : SG) (t : Int) : V6 × Int := allV (unS (spQ s.l0 (xQ s t) * byQ s)) (unS (spQ s.l1 (xQ s t) * byQ s)) (unS (spQ s.l2 (xQ s t) * byQ s))

def inS (t : Int) (s : SG) : Bool := decide (s.F ≤ t) && decide (t ≤ s.T)

def segOf (ss : List SG) (t : Int) : Option SG := ss.find? (inS t)

def getB (bs : List BG) (i : Int) : Option BG := if 0 ≤ i then bs[i.toNat]? else none

/-- What a function of the segment of a time answers. -/
noncomputable def lkE (f : SG → V6 × Int) (bs : List BG) (i t : Int) : V6 × Int :=
  if chkE bs = 0 then match getB bs i with
    | none => (zV6, 6)
    | some b => match segOf b.ss t with
      | none => (zV6, 16)
      | some s => f s
  else (zV6, chkE bs)

noncomputable def plE (bs : List BG) (i t : Int) : V6 × Int := lkE (fun s => (plV s t, 0)) bs i t

noncomputable def spE (bs : List BG) (i t : Int) : V6 × Int := lkE (fun s => spR s t) bs i t

/-- A function of an ephemeris considers no greater ones. -/
def grL (n lo mid hi : Nat) : Bool := (decide (lo < n) && decide (n ≤ mid)) || decide (hi < n)

def grS (s : SG) : Bool := grL s.l0.length 6 16 30 || grL s.l1.length 6 16 30 || grL s.l2.length 6 16 30

def grBd (b : BG) : Bool := decide (200 < b.nm.length) || grL b.ss.length 4 100 110 || b.ss.any grS

def grE (bs : List BG) : Bool := grL bs.length 4 12 20 || bs.any grBd

/-- A segment that is valid, of a few coefficients. -/
structure OkSeg (s : SG) : Prop where
  v : segB s = true
  n0 : s.l0.length ≤ 6
  n1 : s.l1.length ≤ 6
  n2 : s.l2.length ≤ 6

theorem grL_few {n lo mid hi : Nat} (h : grL n lo mid hi = false) (hn : n ≤ mid) : n ≤ lo := by
  unfold grL at h
  simp only [Bool.or_eq_false_iff, Bool.and_eq_false_iff, decide_eq_false_iff_not] at h
  omega

theorem ok_seg {bs : List BG} {b : BG} {s : SG} (h : grE bs = false) (hc : chkE bs = 0) (hb : b ∈ bs) (hs : s ∈ b.ss) : OkSeg s := by
  obtain ⟨-, h2, h3⟩ := chkE_ok hc
  have hm := h2 b hb
  unfold grE at h
  simp only [Bool.or_eq_false_iff] at h
  have h4 := List.any_eq_false.1 h.2 b hb
  unfold grBd at h4
  simp only [Bool.not_eq_true, Bool.or_eq_false_iff] at h4
  have h5 := List.any_eq_false.1 h4.2 s hs
  unfold grS at h5
  simp only [Bool.not_eq_true, Bool.or_eq_false_iff] at h5
  unfold manyB at hm
  simp only [Bool.or_eq_false_iff] at hm
  have h6 := List.any_eq_false.1 hm.2 s hs
  unfold manyS at h6
  simp only [Bool.not_eq_true, Bool.or_eq_false_iff, decide_eq_false_iff_not] at h6
  obtain ⟨k, hk, rfl⟩ := List.getElem_of_mem hb
  obtain ⟨j, hj, rfl⟩ := List.getElem_of_mem hs
  exact ⟨(h3.b k hk).sg j hj, grL_few h5.1.1 (by omega), grL_few h5.1.2 (by omega), grL_few h5.2 (by omega)⟩

theorem div_mul {a b : Int} (hb : 0 < b) : Rat.divInt a b * (b : Rat) = (a : Rat) := by
  rw [Rat.divInt_eq_div]
  refine Rat.div_mul_cancel ?_
  intro h
  have : b = 0 := by exact_mod_cast h
  omega

theorem bd_of_div {a b m : Int} (hb : 0 < b) (h1 : -(m * b) ≤ a) (h2 : a ≤ m * b) : -(m : Rat) ≤ Rat.divInt a b ∧ Rat.divInt a b ≤ (m : Rat) := by
  have h := div_mul (a := a) hb
  have hbR : (0 : Rat) < (b : Rat) := by exact_mod_cast hb
  have e1 : (-((m : Rat) * (b : Rat))) ≤ (a : Rat) := by rw [← Rat.intCast_mul, ← Rat.intCast_neg]; exact Rat.intCast_le_intCast.2 h1
  have e2 : (a : Rat) ≤ (m : Rat) * (b : Rat) := by rw [← Rat.intCast_mul]; exact Rat.intCast_le_intCast.2 h2
  generalize Rat.divInt a b = x at *
  rw [← h] at e1 e2
  constructor
  · apply Rat.not_lt.1
    intro h3
    have := Rat.mul_pos (a := -(m : Rat) - x) (b := (b : Rat)) (by grind) hbR
    grind
  · apply Rat.not_lt.1
    intro h3
    have := Rat.mul_pos (a := x - (m : Rat)) (b := (b : Rat)) (by grind) hbR
    grind

theorem xQ_bd {s : SG} {t : Int} (h : s.F < s.T) (h1 : s.F ≤ t) (h2 : t ≤ s.T) : -1 ≤ xQ s t ∧ xQ s t ≤ 1 := by
  have := bd_of_div (a := 2 * t - s.F - s.T) (b := s.T - s.F) (m := 1) (by omega) (by omega) (by omega)
  exact this

theorem cf_bd {l : List Int} (h : listB l = true) (k : Nat) : -(1125899906842624 : Rat) ≤ cfQ l k ∧ cfQ l k ≤ 1125899906842624 := by
  unfold listB at h
  simp only [Bool.and_eq_true, List.all_eq_true] at h
  have key : -1125899906842624 ≤ l.getD k 0 ∧ l.getD k 0 ≤ 1125899906842624 := by
    rw [List.getD_eq_getElem?_getD]
    by_cases hk : k < l.length
    · rw [List.getElem?_eq_getElem hk]
      have := h.2 _ (List.getElem_mem hk)
      unfold outB at this
      simp only [Bool.not_eq_true', Bool.or_eq_false_iff, decide_eq_false_iff_not] at this
      simp only [Option.getD_some]
      omega
    · rw [List.getElem?_eq_none (by omega)]; simp
  unfold cfQ
  have e1 := Rat.intCast_le_intCast.2 key.1
  have e2 := Rat.intCast_le_intCast.2 key.2
  exact ⟨e1, e2⟩

theorem vl_bd {l : List Int} {x : Rat} (h : listB l = true) (hn : l.length ≤ 6) (h1 : -1 ≤ x) (h2 : x ≤ 1) : -((6755399441055744 : Int) : Rat) ≤ vlQ l x ∧ vlQ l x ≤ ((6755399441055744 : Int) : Rat) := by
  have hb := chS_bd h1 h2 (M := 1125899906842624) (c := cfQ l) (n := l.length) fun k _ => cf_bd h k
  have hl : ((l.length : Nat) : Rat) ≤ 6 := by exact_mod_cast hn
  have h0 : (0 : Rat) ≤ ((l.length : Nat) : Rat) := by exact_mod_cast Nat.zero_le _
  unfold vlQ
  generalize ((l.length : Nat) : Rat) = n at *
  have e : ((6755399441055744 : Int) : Rat) = 6 * 1125899906842624 := by
    rw [show (6755399441055744 : Int) = 6 * 1125899906842624 from rfl, Rat.intCast_mul]; rfl
  rw [e]
  constructor <;> grind

theorem vl_ok {l : List Int} {x : Rat} (h : listB l = true) (hn : l.length ≤ 6) (h1 : -1 ≤ x) (h2 : x ≤ 1) : unS (vlQ l x) = ((vlQ l x).floor, (vlQ l x).ceil, 0) :=
  unS_ok (by decide) (vl_bd h hn h1 h2).1 (vl_bd h hn h1 h2).2

theorem segOf_in {ss : List SG} {t : Int} {s : SG} (h : segOf ss t = some s) : s ∈ ss ∧ s.F ≤ t ∧ t ≤ s.T := by
  have h1 := List.mem_of_find?_eq_some h
  have h2 := List.find?_some h
  unfold inS at h2
  simp only [Bool.and_eq_true, decide_eq_true_eq] at h2
  exact ⟨h1, h2⟩

theorem getB_mem {bs : List BG} {i : Int} {b : BG} (h : getB bs i = some b) : b ∈ bs := by
  unfold getB at h
  split at h
  · exact List.mem_of_getElem? h
  · cases h

/-- One vector lies in another. -/
structure Has (u v : V6) : Prop where
  a : u.l0 ≤ v.l0 ∧ v.h0 ≤ u.h0
  b : u.l1 ≤ v.l1 ∧ v.h1 ≤ u.h1
  c : u.l2 ≤ v.l2 ∧ v.h2 ≤ u.h2

theorem Has.refl (v : V6) : Has v v := ⟨⟨by omega, by omega⟩, ⟨by omega, by omega⟩, ⟨by omega, by omega⟩⟩

theorem Has.trans {u v w : V6} (h : Has u v) (g : Has v w) : Has u w := ⟨⟨by have := h.a; have := g.a; omega, by have := h.a; have := g.a; omega⟩, ⟨by have := h.b; have := g.b; omega, by have := h.b; have := g.b; omega⟩, ⟨by have := h.c; have := g.c; omega, by have := h.c; have := g.c; omega⟩⟩

/-- Segments, each of which begins where the one before ends. -/
structure Chn (ss : List SG) : Prop where
  lt : ∀ k (hk : k < ss.length), (ss[k]'hk).F < (ss[k]'hk).T
  ch : ∀ k (hk : k + 1 < ss.length), (ss[k + 1]'hk).F = (ss[k]'(by omega)).T

theorem Chn.tail {s : SG} {r : List SG} (h : Chn (s :: r)) : Chn r := ⟨fun k hk => h.lt (k + 1) (by simpa using hk), fun k hk => h.ch (k + 1) (by simpa using hk)⟩

/-- A segment with the signs of the coefficients at odd places turned; with all doubled. -/
def trnL (l : List Int) : List Int := l.mapIdx fun k c => if k % 2 = 1 then -c else c

def dblL (l : List Int) : List Int := l.map fun c => 2 * c

theorem trnL_len (l : List Int) : (trnL l).length = l.length := by simp [trnL]

theorem dblL_len (l : List Int) : (dblL l).length = l.length := by simp [dblL]

theorem trn_cf (l : List Int) (k : Nat) : cfQ (trnL l) k = altS k * cfQ l k := by
  unfold cfQ trnL altS
  rw [List.getD_eq_getElem?_getD, List.getD_eq_getElem?_getD, List.getElem?_mapIdx]
  cases l[k]? with
  | none => simp
  | some c =>
    simp only [Option.map_some, Option.getD_some]
    rcases Nat.mod_two_eq_zero_or_one k with h | h
    · rw [if_neg (by omega), if_pos h]; grind
    · rw [if_pos h, if_neg (by omega), Rat.intCast_neg]; grind

theorem dbl_cf (l : List Int) (k : Nat) : cfQ (dblL l) k = 2 * cfQ l k := by
  unfold cfQ dblL
  rw [List.getD_eq_getElem?_getD, List.getD_eq_getElem?_getD, List.getElem?_map]
  cases l[k]? with
  | none => simp
  | some c =>
    simp only [Option.map_some, Option.getD_some]
    rw [Rat.intCast_mul]
    rfl

theorem altS_sq (k : Nat) : altS k * altS k = 1 := by unfold altS; split <;> grind

theorem trn_vl (l : List Int) (x : Rat) : vlQ (trnL l) (-x) = vlQ l x := by
  unfold vlQ
  rw [trnL_len, chS_turn (cfQ l) (chT x) (chT (-x)) (s := 1) (fun k _ => by
    rw [trn_cf, chT_neg]
    have := altS_sq k
    generalize altS k = a at *
    grind), Rat.one_mul]

theorem trn_sp (l : List Int) (x : Rat) : spQ (trnL l) (-x) = -spQ l x := by
  unfold spQ
  rw [trnL_len, chS_turn (cfQ l) (chD x) (chD (-x)) (s := -1) (fun k _ => by
    rw [trn_cf, chD_neg]
    have := altS_sq k
    generalize altS k = a at *
    grind)]
  grind

theorem dbl_vl (l : List Int) (x : Rat) : vlQ (dblL l) x = 2 * vlQ l x := by
  unfold vlQ
  rw [dblL_len, chS_turn (cfQ l) (chT x) (chT x) (s := 2) (fun k _ => by rw [dbl_cf]; grind)]

/-- What the mirrored segment is. -/
structure Mir (s r : SG) : Prop where
  f : r.F = s.F
  t : r.T = s.T
  l0 : r.l0 = trnL s.l0
  l1 : r.l1 = trnL s.l1
  l2 : r.l2 = trnL s.l2

structure Dbl (s r : SG) : Prop where
  f : r.F = s.F
  t : r.T = s.T
  l0 : r.l0 = dblL s.l0
  l1 : r.l1 = dblL s.l1
  l2 : r.l2 = dblL s.l2

theorem xQ_mir (s r : SG) (t : Int) (hf : r.F = s.F) (ht : r.T = s.T) (h : s.F < s.T) : xQ r (s.F + s.T - t) = -xQ s t := by
  have h1 := div_mul (a := 2 * t - s.F - s.T) (b := s.T - s.F) (by omega)
  have h2 := div_mul (a := 2 * (s.F + s.T - t) - s.F - s.T) (b := s.T - s.F) (by omega)
  have hb : (0 : Rat) < ((s.T - s.F : Int) : Rat) := by exact_mod_cast (show (0 : Int) < s.T - s.F by omega)
  have e : ((2 * (s.F + s.T - t) - s.F - s.T : Int) : Rat) = -((2 * t - s.F - s.T : Int) : Rat) := by rw [← Rat.intCast_neg]; congr 1; omega
  rw [e] at h2
  unfold xQ
  rw [hf, ht]
  generalize Rat.divInt (2 * t - s.F - s.T) (s.T - s.F) = x at *
  generalize Rat.divInt (2 * (s.F + s.T - t) - s.F - s.T) (s.T - s.F) = y at *
  generalize ((s.T - s.F : Int) : Rat) = L at *
  have : L * (x + y) = 0 := by grind
  rcases Rat.mul_eq_zero.1 this with h2 | h2 <;> grind

theorem mir_pl {s r : SG} (h : Mir s r) (hs : s.F < s.T) (t : Int) : plV r (s.F + s.T - t) = plV s t := by
  unfold plV
  rw [xQ_mir s r t h.f h.t hs, h.l0, h.l1, h.l2, trn_vl, trn_vl, trn_vl]

def negV (v : V6) : V6 := ⟨-v.h0, -v.l0, -v.h1, -v.l1, -v.h2, -v.l2⟩

theorem mir_sp {s r : SG} (h : Mir s r) (hs : s.F < s.T) (t : Int) : spR r (s.F + s.T - t) = if (spR s t).2 = 0 then (negV (spR s t).1, 0) else (zV6, 16) := by
  have hb : byQ r = byQ s := by unfold byQ; rw [h.f, h.t]
  unfold spR
  rw [xQ_mir s r t h.f h.t hs, h.l0, h.l1, h.l2, trn_sp, trn_sp, trn_sp, hb]
  have e : ∀ a b : Rat, -a * b = -(a * b) := fun a b => by grind
  rw [e, e, e, unS_neg, unS_neg, unS_neg]
  generalize unS (spQ s.l0 (xQ s t) * byQ s) = a
  generalize unS (spQ s.l1 (xQ s t) * byQ s) = b
  generalize unS (spQ s.l2 (xQ s t) * byQ s) = c
  unfold allV negV
  by_cases h0 : a.2.2 = 0 <;> by_cases h1 : b.2.2 = 0 <;> by_cases h2 : c.2.2 = 0 <;> simp [h0, h1, h2]

theorem dbl_pl {s r : SG} (h : Dbl s r) (hs : s.F < s.T) (hl : listB s.l0 = true ∧ listB s.l1 = true ∧ listB s.l2 = true) (hr : listB r.l0 = true ∧ listB r.l1 = true ∧ listB r.l2 = true) (n0 : s.l0.length ≤ 6) (n1 : s.l1.length ≤ 6) (n2 : s.l2.length ≤ 6)
    {t : Int} (t1 : s.F ≤ t) (t2 : t ≤ s.T) : Has ⟨2 * (plV s t).l0, 2 * (plV s t).h0, 2 * (plV s t).l1, 2 * (plV s t).h1, 2 * (plV s t).l2, 2 * (plV s t).h2⟩ (plV r t) := by
  obtain ⟨x1, x2⟩ := xQ_bd hs t1 t2
  have ex : xQ r t = xQ s t := by unfold xQ; rw [h.f, h.t]
  have key : ∀ l : List Int, listB l = true → listB (dblL l) = true → l.length ≤ 6 → 2 * (unS (vlQ l (xQ s t))).1 ≤ (unS (vlQ (dblL l) (xQ s t))).1 ∧ (unS (vlQ (dblL l) (xQ s t))).2.1 ≤ 2 * (unS (vlQ l (xQ s t))).2.1 := fun l h1 h2 hn => by
    rw [vl_ok h1 hn x1 x2, vl_ok h2 (by rw [dblL_len]; exact hn) x1 x2, dbl_vl]
    exact two_fl _
  have r0 := hr.1
  have r1 := hr.2.1
  have r2 := hr.2.2
  rw [h.l0] at r0
  rw [h.l1] at r1
  rw [h.l2] at r2
  unfold plV
  rw [ex, h.l0, h.l1, h.l2]
  exact ⟨key _ hl.1 r0 n0, key _ hl.2.1 r1 n1, key _ hl.2.2 r2 n2⟩

end Go.Proofs.Ytghallnooijfhaa

import Derived.Test.YtlekjkljajeodaaGreatMg9
import Derived.Test.YtlekjkljajeodaaGreatW1
import Derived.Maps.Own
import Derived.Maps.Views
import Derived.Test.YtlekjkljajeodaaGreatMg2
import Derived.Test.YtlekjkljajeodaaGreatShelf
import Derived.Deep.LoopGhost
import Derived.Lib.OthersKept
set_option maxHeartbeats 8000000
set_option maxRecDepth 100000
namespace Go.Proofs.YtlekjkljajeodaaGreat
open Lib renaming hid → lh
open Go.RowKit Go.Maps
theorem str_keyed : Keyed Tryz.prog 9 := string_keyed Tryz.underlying9
theorem zero_bool (w : World) : (zeroValue 4).run Tryz.prog w = .ok (.bool false) w := by kernel_rfl
theorem plainBool_inv {e : TypeId} (he : Tryz.prog.underlying e = some .bool) {v : Value} {z : DataW Unit × List MemPlace} (h : plainElem Tryz.prog e v = some z) : ∃ x, v = .bool x ∧ z = (.lit (.bool x), []) := by
  unfold plainElem at h;rw [he] at h;cases v <;> simp at h
  exact ⟨_, rfl, h.symm⟩
def Seen (w : World) (b n : Nat) (f : List UInt8 → Bool) : Prop :=
  ∃ D : DataW Unit, w.ownsMap Tryz.prog 9 (plainElem Tryz.prog 4) b n D ∧ IsMap D ∧ ∀ s : List UInt8, D.atKey (.string s) (.lit (.bool false)) = .lit (.bool (f s))
theorem Seen.made (w : World) : Seen (w.alloc (.map #[] 0)) w.heap.size 0 (fun _ => false) :=
  ⟨.map [], World.ownsMap_made _ _ _ _, isMap_empty, fun _ => rfl⟩
section
variable {w w' : World} {b n : Nat} {f : List UInt8 → Bool}
theorem Seen.lt (h : Seen w b n f) : b < w.heap.size := by obtain ⟨D, h1, _⟩ := h; exact h1.lt
theorem Seen.keep (h : Seen w b n f) (hb : Below w.heap.size w w') : Seen w' b n f := by
  have hl := h.lt;obtain ⟨D, ⟨es, clock, h1, r⟩, h2, h3⟩ := h;exact ⟨D, ⟨es, clock, (hb.block b hl).trans h1, r⟩, h2, h3⟩
theorem Seen.cong (h : Seen w b n f) {g : List UInt8 → Bool} (e : ∀ s, f s = g s) : Seen w b n g := by
  obtain ⟨D, h1, h2, h3⟩ := h;exact ⟨D, h1, h2, fun s => by rw [h3, e]⟩
theorem Seen.look (h : Seen w b n f) (s : List UInt8) (hs : s.length ≤ 140737488355328) : (Instr.lookup 129 (.map (some b)) (.string ⟨s.toArray⟩) false).run Tryz.prog w = .ok (.bool (f s)) w := by
  obtain ⟨D, h1, h2, h3⟩ := h;have hk : keyOf Tryz.prog 9 (.string ⟨s.toArray⟩) = some (.string s) := WideMaps.keyOf_string_mk Tryz.underlying9 (by show s.toArray.size ≤ maxLen; simp; unfold maxLen; omega);obtain ⟨v, ps, hrun, hv⟩ := h1.lookup str_keyed Tryz.underlying129 (zero_bool w) (plainElem_bool Tryz.underlying4 false) hk;obtain ⟨x, rfl, hx⟩ := plainBool_inv Tryz.underlying4 hv;rw [h3 s] at hx;simp only [Prod.mk.injEq, DataW.lit.injEq, Lit.bool.injEq] at hx;rw [hrun, hx.1]
theorem Seen.store (h : Seen w b n f) (s : List UInt8) (hs : s.length ≤ 140737488355328) (hn : n ≤ 1000) : ∃ w', (Instr.mapUpdate 129 (.map (some b)) (.string ⟨s.toArray⟩) (.bool true)).run Tryz.prog w = .ok () w' ∧
    Seen w' b (n + 1) (fun t => f t || decide (s = t)) ∧ w.grownBy w' (some b) := by
  obtain ⟨D, h1, h2, h3⟩ := h;have hk : keyOf Tryz.prog 9 (.string ⟨s.toArray⟩) = some (.string s) := WideMaps.keyOf_string_mk Tryz.underlying9 (by show s.toArray.size ≤ maxLen; simp; unfold maxLen; omega);obtain ⟨w', hrun, o, g⟩ := h1.update str_keyed Tryz.underlying129 (by unfold maxLen; omega) hk (plainElem_bool Tryz.underlying4 true);refine ⟨w', hrun, ⟨_, o, h2.put _ _, fun t => ?_⟩, g⟩;by_cases e : t = s
  · subst e;rw [atKey_put_same h2 (show WideAt.IsKeyLit (.string t) from trivial)];show DataW.lit (.bool true) = .lit (.bool (f t || decide (t = t)))
    rw [decide_eq_true rfl, Bool.or_true]
  · rw [atKey_put_other (by simpa using e), h3];show DataW.lit (.bool (f t)) = .lit (.bool (f t || decide (s = t)))
    rw [decide_eq_false (fun h : s = t => e h.symm), Bool.or_false]
end
end Go.Proofs.YtlekjkljajeodaaGreat
namespace Go.Proofs.YtlekjkljajeodaaGreat
open Lib renaming hid → lh
open Go.RowKit
attribute [local go_sem ↓] Go.wp_at_zero Go.wp_at_succ
theorem outside_any (n m : Int) (h0 : 0 ≤ m) (h1 : m ≤ 9223372036854775807) (w : World) :
    Calls Tryz.prog 133 #[.int .i64 n, .int .i64 m] w fun e w' => e = .returned (.bool (outB n m)) ∧ Below w.heap.size w w' := by
  have N : Hid (outB n m = (decide (n < -m) || decide (m < n))) := rfl;by_cases ha : n < -m
  · have t1 : decide (n < -m) = true := decide_eq_true ha;have E : Hid (outB n m = true) := (by rw [Hid, N.out, t1]; rfl);clear N ha;go_enter Tryz.func133, Tryz.ntmps133
    go_wp2
    go_ret
    exact ⟨by rw [E.out]; rfl, Below.refl _ _⟩
  · have t1 : decide (n < -m) = false := decide_eq_false ha;by_cases hb : m < n
    · have t2 : decide (m < n) = true := decide_eq_true hb;have E : Hid (outB n m = true) := (by rw [Hid, N.out, t1, t2]; rfl);clear N ha hb;go_enter Tryz.func133, Tryz.ntmps133
      go_wp2
      go_ret
      exact ⟨by rw [E.out]; rfl, Below.refl _ _⟩
    · have t2 : decide (m < n) = false := decide_eq_false hb;have E : Hid (outB n m = false) := (by rw [Hid, N.out, t1, t2]; rfl);clear N ha hb;go_enter Tryz.func133, Tryz.ntmps133
      go_wp2
      go_ret
      exact ⟨by rw [E.out]; rfl, Below.refl _ _⟩
end Go.Proofs.YtlekjkljajeodaaGreat
namespace Go.Proofs.YtlekjkljajeodaaGreat
open Lib renaming hid → lh
open Go.RowKit Go.Lib
attribute [local go_sem ↓] Go.wp_at_zero Go.wp_at_succ
theorem nm_pays (w : World) : PredAt Tryz.prog 132 #[] encR notNm w := fun W r _ => by
  unfold FnGives notNm;by_cases h1 : r < 97 <;> by_cases h2 : 122 < r <;> by_cases h3 : r < 48 <;> by_cases h4 : 57 < r <;> by_cases h5 : r = 45
  all_goals first
    | (exfalso; omega)
    | (have z1 : (r : Int) < 97 ↔ r < 97 := by omega
       have z2 : (122 : Int) < (r : Int) ↔ 122 < r := (by omega);have z3 : (r : Int) < 48 ↔ r < 48 := (by omega);have z4 : (57 : Int) < (r : Int) ↔ 57 < r := (by omega);have z5 : (r : Int) = 45 ↔ r = 45 := (by omega);go_enter Tryz.func132, Tryz.ntmps132
       go_wp2
       all_goals first | (exfalso; omega) | (go_ret; exact ⟨by simp [h1, h2, h3, h4, h5] <;> omega, 0, rfl⟩))
theorem ename_any (nm : List UInt8) (hl : nm.length ≤ 140737488355328) (w : World) :
    Calls Tryz.prog 73 #[.string ⟨nm.toArray⟩] w fun e w' => e = .returned (.bool (nmB nm)) ∧ Below w.heap.size w w' := by
  have hcf := fun W => Tryz.strings_ContainsFunc 132 #[] (enters_of Tryz.func132 (by kernel_rfl) rfl) notNm ⟨nm.toArray⟩ W (nm_pays W);rw [idx_nmB] at hcf;have Hcf := lh hcf;clear hcf;rcases nm with _ | ⟨b, t⟩
  · go_enter Tryz.func73, Tryz.ntmps73
    go_wp2_with fail
    refine (Hcf.out _).mono ?_;rintro e w1 ⟨rfl, hb⟩;have HB := lh hb;clear hb;go_wp2
    go_ret
    exact ⟨rfl, HB.out⟩
  · have HE := lh (nmB_cons b t);have hget : (ByteArray.mk (b :: t).toArray)[0]'(by simp [ByteArray.size]) = b := rfl;have hsz : (ByteArray.mk (b :: t).toArray).size = t.length + 1 := (by simp [ByteArray.size]);simp only [List.length_cons] at hl;generalize (b :: t).all letB = al at *;generalize hR : nmB (b :: t) = R at *;by_cases h24 : t.length + 1 ≤ 24
    · have t1 : decide (((t.length + 1 : Nat) : Int) ≤ 24) = true := decide_eq_true (by omega);have t1' : decide (((t.length : Nat) : Int) + 1 ≤ 24) = true := decide_eq_true (by omega)
      cases al with
      | false =>
        have E : Hid (R = false) := (by have := HE.out; rw [decide_eq_true h24] at this; exact this);clear HE;go_enter Tryz.func73, Tryz.ntmps73
        go_wp2_with fail
        refine (Hcf.out _).mono ?_;rintro e w1 ⟨rfl, hb⟩;have HB := lh hb;clear hb;go_wp2
        go_ret
        exact ⟨by rw [E.out]; rfl, HB.out⟩
      | true =>
        by_cases h97 : 97 ≤ b.toNat
        · have t2 : decide (97 ≤ b.toNat) = true := decide_eq_true h97;by_cases h122 : b.toNat ≤ 122
          · have t3 : decide (b.toNat ≤ 122) = true := decide_eq_true h122;have E : Hid (R = true) := (by have := HE.out; rw [decide_eq_true h24, t2, t3] at this; exact this);clear HE;go_enter Tryz.func73, Tryz.ntmps73
            go_wp2_with fail
            refine (Hcf.out _).mono ?_;rintro e w1 ⟨rfl, hb⟩;have HB := lh hb;clear hb;go_wp2
            all_goals go_ret
            all_goals first | exact ⟨by rw [E.out]; rfl, HB.out⟩ | (exfalso; omega) | exact ⟨by rw [E.out]; show Ending.returned (.bool (decide ((b.toNat : Int) ≤ 122))) = _; rw [decide_eq_true (by omega)], HB.out⟩ | exact ⟨by rw [E.out]; show Ending.returned (.bool (decide ((b.toNat : Int) ≤ 122))) = _; rw [decide_eq_false (by omega)], HB.out⟩
          · have t3 : decide (b.toNat ≤ 122) = false := decide_eq_false h122;have E : Hid (R = false) := (by have := HE.out; rw [decide_eq_true h24, t2, t3] at this; exact this);clear HE;go_enter Tryz.func73, Tryz.ntmps73
            go_wp2_with fail
            refine (Hcf.out _).mono ?_;rintro e w1 ⟨rfl, hb⟩;have HB := lh hb;clear hb;go_wp2
            all_goals go_ret
            all_goals first | exact ⟨by rw [E.out]; rfl, HB.out⟩ | (exfalso; omega) | exact ⟨by rw [E.out]; show Ending.returned (.bool (decide ((b.toNat : Int) ≤ 122))) = _; rw [decide_eq_true (by omega)], HB.out⟩ | exact ⟨by rw [E.out]; show Ending.returned (.bool (decide ((b.toNat : Int) ≤ 122))) = _; rw [decide_eq_false (by omega)], HB.out⟩
        · have t2 : decide (97 ≤ b.toNat) = false := decide_eq_false h97;have E : Hid (R = false) := (by have := HE.out; rw [decide_eq_true h24, t2] at this; exact this);clear HE;go_enter Tryz.func73, Tryz.ntmps73
          go_wp2_with fail
          refine (Hcf.out _).mono ?_;rintro e w1 ⟨rfl, hb⟩;have HB := lh hb;clear hb;go_wp2
          all_goals go_ret
          all_goals first | exact ⟨by rw [E.out]; rfl, HB.out⟩ | (exfalso; omega) | exact ⟨by rw [E.out]; show Ending.returned (.bool (decide ((b.toNat : Int) ≤ 122))) = _; rw [decide_eq_true (by omega)], HB.out⟩ | exact ⟨by rw [E.out]; show Ending.returned (.bool (decide ((b.toNat : Int) ≤ 122))) = _; rw [decide_eq_false (by omega)], HB.out⟩
    · have t1 : decide (((t.length + 1 : Nat) : Int) ≤ 24) = false := decide_eq_false (by omega);have t1' : decide (((t.length : Nat) : Int) + 1 ≤ 24) = false := decide_eq_false (by omega);have E : Hid (R = false) := (by have := HE.out; rw [decide_eq_false h24] at this; exact this);clear HE;go_enter Tryz.func73, Tryz.ntmps73
      go_wp2_with fail
      refine (Hcf.out _).mono ?_;rintro e w1 ⟨rfl, hb⟩;have HB := lh hb;clear hb;go_wp2
      go_ret
      exact ⟨by rw [E.out]; rfl, HB.out⟩
end Go.Proofs.YtlekjkljajeodaaGreat
namespace Go.Proofs.YtlekjkljajeodaaGreat
open Lib renaming hid → lh
open Go.RowKit
attribute [local go_sem ↓] Go.wp_at_zero Go.wp_at_succ
def SG.l (s : SG) (k : Nat) : List Int := if k = 0 then s.l0 else if k = 1 then s.l1 else s.l2
theorem listB_bad {l : List Int} {k : Nat} (hk : k < l.length) (h : outB (l[k]'hk) 1125899906842624 = true) : q2m l = false := by
  unfold q2m
  have : (l.all fun n => !outB n 1125899906842624) = false := by
    rw [List.all_eq_false];exact ⟨_, List.getElem_mem hk, by rw [h]; decide⟩
  rw [this, Bool.and_false]
theorem listB_good {l : List Int} (h0 : 0 < l.length) (h : ∀ n ∈ l, outB n 1125899906842624 = false) : q2m l = true := by
  unfold q2m;have e : l.isEmpty = false := by cases l with | nil => simp at h0 | cons _ _ => rfl
  have : (l.all fun n => !outB n 1125899906842624) = true := by
    rw [List.all_eq_true];intro n hn;rw [h n hn]; rfl
  rw [this, e]; rfl
def segT (s : SG) (first : Bool) (e : Int) : Bool := segB s && (first || decide (s.F = e))
theorem segT_lt {s : SG} {f : Bool} {e : Int} (h : s.T ≤ s.F) : segT s f e = false := by
  unfold segT segB; rw [decide_eq_false (show ¬ s.F < s.T by omega)]; rfl
theorem segT_F {s : SG} {f : Bool} {e : Int} (h : outB s.F 5000000000000000 = true) : segT s f e = false := by
  unfold segT segB; rw [h]; simp
theorem segT_T {s : SG} {f : Bool} {e : Int} (h : outB s.T 5000000000000000 = true) : segT s f e = false := by
  unfold segT segB; rw [h]; simp
theorem segT_e {s : SG} {e : Int} (h : s.F ≠ e) : segT s false e = false := by
  unfold segT; rw [decide_eq_false h]; simp
theorem segT_l {s : SG} {f : Bool} {e : Int} {k : Nat} (h : q2m (s.l k) = false) : segT s f e = false := by
  unfold SG.l at h;unfold segT segB;split at h
  · rw [h]; simp
  · split at h
    · rw [h]; simp
    · rw [h]; simp
theorem segT_ok {s : SG} {f : Bool} {e : Int} (h1 : s.F < s.T) (h2 : outB s.F 5000000000000000 = false) (h3 : outB s.T 5000000000000000 = false) (h4 : f = true ∨ s.F = e) (h5 : ∀ k, k < 3 → q2m (s.l k) = true) : segT s f e = true := by
  have a := h5 0 (by omega);have b := h5 1 (by omega);have c := h5 2 (by omega);unfold SG.l at a b c;rw [if_pos rfl] at a;rw [if_neg (by omega), if_pos rfl] at b;rw [if_neg (by omega), if_neg (by omega)] at c;unfold segT segB;rw [h2, h3, a, b, c, decide_eq_true h1];rcases h4 with rfl | h4
  · rfl
  · rw [decide_eq_true h4]; simp
theorem eseg_any (s : SG) (first : Bool) (e : Int) (B : Nat) (w : World) (hs : OkS w B s) :
    Calls Tryz.prog 74 #[.agg #[.int .i64 s.F, .int .i64 s.T, .slice s.A0 s.l0.length s.c0, .slice s.A1 s.l1.length s.c1, .slice s.A2 s.l2.length s.c2], .bool first, .int .i64 e] w fun x w' => x = .returned (.bool (segT s first e)) ∧ Below w.heap.size w w' := by
  have HS := lh hs;clear hs;have C1 := lh (fun W => outside_any s.F 5000000000000000 (by omega) (by omega) W);have C2 := lh (fun W => outside_any s.T 5000000000000000 (by omega) (by omega) W);have K0 : Hid (BlkV (w.alloc (.cells #[.int .i64 s.F, .int .i64 s.T, .slice s.A0 s.l0.length s.c0, .slice s.A1 s.l1.length s.c1, .slice s.A2 s.l2.length s.c2] 59)) w.heap.size 59 #[.int .i64 s.F, .int .i64 s.T, .slice s.A0 s.l0.length s.c0, .slice s.A1 s.l1.length s.c1, .slice s.A2 s.l2.length s.c2]) := BlkV.fresh rfl _ _;have B0 : Hid (Below w.heap.size w (w.alloc (.cells #[.int .i64 s.F, .int .i64 s.T, .slice s.A0 s.l0.length s.c0, .slice s.A1 s.l1.length s.c1, .slice s.A2 s.l2.length s.c2] 59))) := blw1 _ _;by_cases hlt : s.T ≤ s.F
  · have t1 : decide (s.T ≤ s.F) = true := decide_eq_true hlt;have E : Hid (segT s first e = false) := segT_lt hlt;clear hlt K0;go_enter Tryz.func74, Tryz.ntmps74
    go_wp2
    go_ret
    exact ⟨by rw [E.out]; rfl, B0.out⟩
  · have t1 : decide (s.T ≤ s.F) = false := decide_eq_false hlt;have Hlt := lh (show s.F < s.T by omega);clear hlt
    cases hF : outB s.F 5000000000000000 with
    | true =>
      have E : Hid (segT s first e = false) := segT_F hF;rw [hF] at C1;have HF := lh hF;clear hF;go_enter Tryz.func74, Tryz.ntmps74
      go_wp2_with fail
      refine (C1.out _).mono ?_;rintro x w1 ⟨rfl, hb⟩;have K1 := lh (K0.out.keep hb);have B1 := lh (q0a B0.out hb);clear hb K0 B0;have qa0 := K1.out.at_ 0 rfl;have qa1 := K1.out.at_ 1 rfl;have qa2 := K1.out.at_ 2 rfl;have qa3 := K1.out.at_ 3 rfl;have qa4 := K1.out.at_ 4 rfl;go_wp2
      go_ret
      exact ⟨by rw [E.out]; rfl, B1.out⟩
    | false =>
      cases hT : outB s.T 5000000000000000 with
      | true =>
        have E : Hid (segT s first e = false) := segT_T hT;rw [hT] at C2;have HT := lh hT;clear hT;rw [hF] at C1;have HF := lh hF;clear hF;go_enter Tryz.func74, Tryz.ntmps74
        go_wp2_with fail
        refine (C1.out _).mono ?_;rintro x w1 ⟨rfl, hb⟩;have K1 := lh (K0.out.keep hb);have B1 := lh (q0a B0.out hb);clear hb K0 B0;have qa0 := K1.out.at_ 0 rfl;have qa1 := K1.out.at_ 1 rfl;have qa2 := K1.out.at_ 2 rfl;have qa3 := K1.out.at_ 3 rfl;have qa4 := K1.out.at_ 4 rfl;go_wp2_with fail
        refine (C2.out _).mono ?_;rintro x w2 ⟨rfl, hb⟩;have K2 := lh (K1.out.keep hb);have B2 := lh (q0a B1.out hb);clear hb K1 B1 qa0 qa1 qa2 qa3 qa4;have qb0 := K2.out.at_ 0 rfl;have qb1 := K2.out.at_ 1 rfl;have qb2 := K2.out.at_ 2 rfl;have qb3 := K2.out.at_ 3 rfl;have qb4 := K2.out.at_ 4 rfl;go_wp2
        go_ret
        exact ⟨by rw [E.out]; rfl, B2.out⟩
      | false =>
        by_cases hfe : first = false ∧ s.F ≠ e
        · obtain ⟨rfl, hne⟩ := hfe;have t2 : decide (s.F = e) = false := decide_eq_false hne;have E : Hid (segT s false e = false) := segT_e hne;rw [hT] at C2;have HT := lh hT;clear hT;rw [hF] at C1;have HF := lh hF;clear hF;go_enter Tryz.func74, Tryz.ntmps74
          go_wp2_with fail
          refine (C1.out _).mono ?_;rintro x w1 ⟨rfl, hb⟩;have K1 := lh (K0.out.keep hb);have B1 := lh (q0a B0.out hb);clear hb K0 B0;have qa0 := K1.out.at_ 0 rfl;have qa1 := K1.out.at_ 1 rfl;have qa2 := K1.out.at_ 2 rfl;have qa3 := K1.out.at_ 3 rfl;have qa4 := K1.out.at_ 4 rfl;go_wp2_with fail
          refine (C2.out _).mono ?_;rintro x w2 ⟨rfl, hb⟩;have K2 := lh (K1.out.keep hb);have B2 := lh (q0a B1.out hb);clear hb K1 B1 qa0 qa1 qa2 qa3 qa4;have qb0 := K2.out.at_ 0 rfl;have qb1 := K2.out.at_ 1 rfl;have qb2 := K2.out.at_ 2 rfl;have qb3 := K2.out.at_ 3 rfl;have qb4 := K2.out.at_ 4 rfl;go_wp2
          go_ret
          exact ⟨by rw [E.out]; rfl, B2.out⟩
        · have Hfe : Hid (first = true ∨ s.F = e) := by
            cases first with
            | true => exact .inl rfl
            | false => exact .inr (Decidable.byContradiction fun h => hfe ⟨rfl, h⟩)
          clear hfe;rw [hT] at C2;have HT := lh hT;clear hT;rw [hF] at C1;have HF := lh hF;clear hF;go_enter Tryz.func74, Tryz.ntmps74
          go_wp2_with fail
          refine (C1.out _).mono ?_;rintro x w1 ⟨rfl, hb⟩;have K1 := lh (K0.out.keep hb);have B1 := lh (q0a B0.out hb);clear hb K0 B0;have qa0 := K1.out.at_ 0 rfl;have qa1 := K1.out.at_ 1 rfl;have qa2 := K1.out.at_ 2 rfl;have qa3 := K1.out.at_ 3 rfl;have qa4 := K1.out.at_ 4 rfl;go_wp2_with fail
          refine (C2.out _).mono ?_;rintro x w2 ⟨rfl, hb⟩;have K2 := lh (K1.out.keep hb);have B2 := lh (q0a B1.out hb);clear hb K1 B1 qa0 qa1 qa2 qa3 qa4;have qb0 := K2.out.at_ 0 rfl;have qb1 := K2.out.at_ 1 rfl;have qb2 := K2.out.at_ 2 rfl;have qb3 := K2.out.at_ 3 rfl;have qb4 := K2.out.at_ 4 rfl;have HS2 := lh (HS.out.below B2.out);clear HS C1 C2
          have Hg : first = true ∨ first = false ∧ s.F = e := by
            cases first with
            | true => exact .inl rfl
            | false => exact .inr ⟨rfl, by rcases Hfe.out with h | h <;> first | exact h | cases h⟩
          clear Hfe;rcases Hg with rfl | ⟨rfl, rfl⟩
          all_goals
            go_wp2
            go_loopw [38] (fun s38 wr => ∃ k : Nat, k ≤ 3 ∧ s38 = .int .i64 k ∧ (∀ j, j < k → q2m (s.l j) = true) ∧ Below w.heap.size w wr ∧ Below w2.heap.size w2 wr) (fun v _ => 3 - (intOf v).toNat)
            case atStart => exact ⟨0, by omega, rfl, fun j hj => by omega, B2.out, Below.refl _ _⟩
            case round =>
              obtain ⟨k, hk, rfl, hall, hb1, hb2⟩ := hrel;have ALL := lh hall;have HB := lh hb1;have HS3 := lh (HS2.out.below hb2);have HB2 := lh hb2;clear hall hb1 hb2;by_cases hk3 : k < 3
              · have tk : decide ((k : Int) < 3) = true := decide_eq_true (by omega)
                obtain ⟨A, l, c, hidx, hsl, hl⟩ : ∃ A l c, (∀ W, (Instr.index 57 (.agg #[.slice s.A0 s.l0.length s.c0, .slice s.A1 s.l1.length s.c1, .slice s.A2 s.l2.length s.c2]) (.int .i64 k)).run Tryz.prog W = .ok (.slice A l.length c) W) ∧ SlI wr B A l c ∧ s.l k = l := by
                  have hk' : k = 0 ∨ k = 1 ∨ k = 2 := (by omega);rcases hk' with rfl | rfl | rfl
                  · exact ⟨_, _, _, fun W => by rfl, HS3.out.i0, rfl⟩
                  · exact ⟨_, _, _, fun W => by rfl, HS3.out.i1, rfl⟩
                  · exact ⟨_, _, _, fun W => by rfl, HS3.out.i2, rfl⟩
                have HL := lh hl;have SL := lh hsl;have hm := hsl.len;clear hl hsl HS3;rcases Nat.eq_zero_or_pos l.length with hz | hpos
                · have E : Hid (∀ f e, segT s f e = false) := fun f e => segT_l (k := k) (by rw [HL.out, List.eq_nil_of_length_eq_zero hz]; rfl);go_wp2
                  go_ret
                  exact ⟨by rw [E.out]; rfl, HB.out⟩
                · have tz : ((l.length : Int) == 0) = false := (by rw [beq_eq_false_iff_ne]; omega);go_wp2
                  go_loopw [46] (fun s46 wv => ∃ j : Nat, j ≤ l.length ∧ s46 = .int .i64 j ∧ (∀ n ∈ l.take j, outB n 1125899906842624 = false) ∧ Below wr.heap.size wr wv) (fun v _ => l.length - (intOf v).toNat)
                  case atStart => exact ⟨0, Nat.zero_le _, rfl, by simp, Below.refl _ _⟩
                  case round =>
                    obtain ⟨j, hj, rfl, hall, hbv⟩ := hrel;have ALL2 := lh hall;have HV := lh hbv;clear hall hbv;by_cases hjl : j < l.length
                    · have S2 := SL.out.below HV.out;obtain ⟨b, o, rfl, -, q0⟩ := S2.at_ hjl;have hbd := S2.lim.at_ hjl;clear S2;have C3 := lh (fun W => outside_any (l[j]'hjl) 1125899906842624 (by omega) (by omega) W);have HBAD : Hid (outB (l[j]'hjl) 1125899906842624 = true → q2m l = false) := fun h => listB_bad hjl h;have HGOOD : Hid (outB (l[j]'hjl) 1125899906842624 = false → ∀ n ∈ l.take (j + 1), outB n 1125899906842624 = false) := fun h => q1f hjl ALL2.out h;generalize l[j]'hjl = y at *
                      cases hO : outB y 1125899906842624 with
                      | true =>
                        have E : Hid (∀ f e, segT s f e = false) := fun f e => segT_l (k := k) (by rw [HL.out]; exact HBAD.out hO);rw [hO] at C3;have HO := lh hO;clear hO;go_wp2_with fail
                        refine (C3.out _).mono ?_;rintro x w3 ⟨rfl, hb⟩;have HV3 := lh (q0a HV.out hb);clear hb q0;go_wp2
                        go_ret
                        exact ⟨by rw [E.out]; rfl, q0a HB.out HV3.out⟩
                      | false =>
                        rw [hO] at C3;have HO := lh hO;clear hO;go_wp2_with fail
                        refine (C3.out _).mono ?_;rintro x w3 ⟨rfl, hb⟩;have HV3 := lh (q0a HV.out hb);clear hb q0;go_wp2
                        go_roundw
                        case rel => exact ⟨j + 1, by omega, by go_num, HGOOD.out HO.out, HV3.out⟩
                        case measure => simp [intOf]; omega
                    · obtain rfl : j = l.length := by omega
                      have HG : Hid (q2m l = true) := listB_good hpos (by have := ALL2.out; rwa [List.take_length] at this);go_wp2
                      go_roundw
                      case rel => exact ⟨k + 1, by omega, by go_num, fun i hi => by rcases Nat.lt_succ_iff_lt_or_eq.1 hi with h | rfl <;> first | exact ALL.out i h | (rw [HL.out]; exact HG.out), q0a HB.out HV.out, q0a HB2.out HV.out⟩
                      case measure => simp [intOf]; omega
              · obtain rfl : k = 3 := by omega
                have E : Hid (∀ f e, f = true ∨ s.F = e → segT s f e = true) := fun f e h => segT_ok Hlt.out HF.out HT.out h ALL.out;go_wp2
                go_ret
                first | exact ⟨by rw [E.out _ _ (.inl rfl)]; rfl, HB.out⟩ | exact ⟨by rw [E.out _ _ (.inr rfl)]; rfl, HB.out⟩
end Go.Proofs.YtlekjkljajeodaaGreat
import Derived.Test.YtlekjkljajeodaaRows
import Derived.Test.YtlekjkljajeodaaMem
import Derived.WalkKit
import Derived.WalkSpells
import Derived.WalkLawsBesides
import Derived.BigQuiet
import Derived.Deep.QuietTactic
import Derived.Deep.RegionHeld3
import Derived.Deep.DrawnRows
import Derived.Maps.Own
import Derived.Maps.Views
/- Walks: validity of numbers, trimming, comparing, making numbers. -/
namespace Go.Proofs.Ytlekjkljajeodaa
open Go.RowKit
attribute [local go_sem ↓] Go.wp_at_zero Go.wp_at_succ
theorem info32 : (Try.prog.info? 101).map (fun i => (i.zero, i.size, i.bytes)) = some (some (.int .u32 0), 1, 4) := by kernel_rfl

set_option maxHeartbeats 400000 in
theorem trim_any (A : Option Addr) (l : List Nat) (c : Nat) (w : World) (hs : Sl w A l c) :
    Calls Try.prog 74 #[.slice A l.length c] w fun e w' => e = .returned (.slice A (limbs (val l)).length c) ∧ w = w' := by
  rw [← trim_len hs.lim]
  have hc := hs.le
  have hlen := hs.len
  have h := hs.rd
  have Hs := Lib.hid hs; clear hs
  go_enter Try.func74, Try.ntmps74
  go_wp2
  go_loop [3] (fun t => ∃ k : Nat, k ≤ l.length ∧ t = .int .i64 k ∧ trimN l k = trimN l l.length) (fun t => (intOf t).toNat)
  case atStart => exact ⟨_, by omega, rfl, rfl⟩
  case round =>
    obtain ⟨k, hk, rfl, hn⟩ := hrel
    have Hn := Lib.hid hn; clear hn
    cases k with
    | succ k =>
      obtain ⟨b, o, rfl, hx⟩ := h.at_ (k := k) (by omega)
      by_cases hz : (((l[k]?.getD 0 : Nat) : Int) == 0) = true
      · go_wp2
        go_round
        case rel => exact ⟨k, by omega, by go_num, by rw [← Hn.out, trimN, if_pos (by simpa using hz)]⟩
        case measure => simp [intOf]
      · go_wp2
        go_ret
        exact ⟨by rw [← Hn.out, trimN, if_neg (by simpa using hz)]; rfl, rfl⟩
    | zero =>
      go_wp2
      go_ret
      exact ⟨by rw [← Hn.out]; rfl, rfl⟩

theorem clone_any (A : Option Addr) (l : List Nat) (c : Nat) (w : World) (hs : Sl w A l c) :
    Calls Try.prog 87 #[.slice A l.length c] w fun e w' => ∃ A' c', e = .returned (.slice A' l.length c') ∧ Ow w' w.heap.size 101 (.slice A' l.length c') l ∧ Below w.heap.size w w' := by
  obtain ⟨i0, hi, hz0, hz1, hz2⟩ := info_parts info32
  have Hs := Lib.hid hs; clear hs
  rcases A with _ | ad
  · have hl : l = [] := by
      rcases l with _ | ⟨x, t⟩
      · rfl
      · obtain ⟨_, _, h, _⟩ := Hs.out.rd (by simp)
        cases h
    subst hl
    have hn := Lib.run_eql_slice_nil (P := Try.prog)
    go_enter Try.func87, Try.ntmps87
    go_wp2
    go_ret
    exact ⟨none, 0, rfl, Ow.nil0 _ _ _, Below.refl _ _⟩
  · have hn := Lib.run_eql_slice_nil (P := Try.prog)
    go_enter Try.func87, Try.ntmps87
    go_wp2_with (at_builtin; refine wpList_clone rfl _ _ 56 rfl 101 i0 Try.underlying56 hi hz0 hz1 hz2 rfl (some ad) l.length l c rfl rfl Hs.out.rd Hs.out.len ?_; intro A' c' w1 hown hb)
    go_ret
    exact ⟨A', c', rfl, hown, hb⟩

theorem made_any (neg : Bool) (A : Option Addr) (l : List Nat) (c : Nat) (w : World) (hs : Sl w A l c) :
    Calls Try.prog 54 #[.bool neg, .slice A l.length c] w (WRes (outN neg (val l)) w) := by
  have Hs := Lib.hid hs; clear hs
  by_cases h1 : 4096 < (limbs (val l)).length
  · have hr : outN neg (val l) = ((false, []), 16) := by rw [outN, if_neg (by omega)]
    rw [hr]
    clear hr
    go_enter Try.func54, Try.ntmps54
    go_wp2_with fail
    refine (trim_any _ _ _ _ (Hs.out.alloc _)).mono ?_
    rintro e w1 ⟨rfl, rfl⟩
    go_wp2
    exact bodyPost_ret (v := .tuple #[.agg #[.bool false, .slice none 0 0], .int .i64 16]) (by simp [results, Try.results54, go_sem]) rfl ⟨none, 0, rfl, Sl.nil _ _ _, blw1 _ _⟩
  · have hr : outN neg (val l) = ((neg && decide (0 < val l), limbs (val l)), 0) := by rw [outN, if_pos (by omega)]
    rw [hr]
    clear hr
    have hp := limbs_len_pos (n := val l)
    have Hs2 : Hid (Sl w A (limbs (val l)) c) := by
      have := Hs.out
      have h2 := this.rd.take (trimN l l.length)
      rw [trim_eq this.lim] at h2
      have h3 := trimN_le l l.length
      rw [trim_len this.lim] at h3
      exact ⟨h2, lim_limbs _, by have := this.le; omega, by have := this.len; omega⟩
    by_cases h0 : 0 < (limbs (val l)).length
    · have hd : (neg && decide (0 < val l)) = neg := by rw [decide_eq_true (hp.1 h0), Bool.and_true]
      rw [hd]
      clear hd hp
      cases neg
      all_goals
        go_enter Try.func54, Try.ntmps54
        go_wp2_with fail
        refine (trim_any _ _ _ _ (Hs.out.alloc _)).mono ?_
        rintro e w1 ⟨rfl, rfl⟩
        go_wp2
      · exact bodyPost_ret (v := .tuple #[.agg #[.bool false, .slice A (limbs (val l)).length c], .int .i64 0]) (by simp [results, Try.results54, go_sem]) rfl ⟨A, c, rfl, Hs2.out.alloc _, blw1 _ _⟩
      · exact bodyPost_ret (v := .tuple #[.agg #[.bool true, .slice A (limbs (val l)).length c], .int .i64 0]) (by simp [results, Try.results54, go_sem]) rfl ⟨A, c, rfl, Hs2.out.alloc _, blw1 _ _⟩
    · have hd : (neg && decide (0 < val l)) = false := by rw [decide_eq_false (by omega), Bool.and_false]
      rw [hd]
      clear hd hp
      cases neg
      all_goals
        go_enter Try.func54, Try.ntmps54
        go_wp2_with fail
        refine (trim_any _ _ _ _ (Hs.out.alloc _)).mono ?_
        rintro e w1 ⟨rfl, rfl⟩
        go_wp2
        exact bodyPost_ret (v := .tuple #[.agg #[.bool false, .slice A (limbs (val l)).length c], .int .i64 0]) (by simp [results, Try.results54, go_sem]) rfl ⟨A, c, rfl, Hs2.out.alloc _, blw1 _ _⟩

end Go.Proofs.Ytlekjkljajeodaa

/- A map from names to truth that the call keeps to itself. -/
namespace Go.Proofs.Ytlekjkljajeodaa
open Go.RowKit Go.Maps
theorem str_keyed : Keyed Try.prog 9 := string_keyed Try.underlying9

theorem zero_bool (w : World) : (zeroValue 4).run Try.prog w = .ok (.bool false) w := by kernel_rfl

theorem plainBool_inv {e : TypeId} (he : Try.prog.underlying e = some .bool) {v : Value} {z : DataW Unit × List MemPlace} (h : plainElem Try.prog e v = some z) : ∃ x, v = .bool x ∧ z = (.lit (.bool x), []) := by
  unfold plainElem at h
  rw [he] at h
  cases v <;> simp at h
  exact ⟨_, rfl, h.symm⟩

/-- Block b of w is a map that answers f s for each name s; it has at most n entries. -/
def Seen (w : World) (b n : Nat) (f : List UInt8 → Bool) : Prop :=
  ∃ D : DataW Unit, w.ownsMap Try.prog 9 (plainElem Try.prog 4) b n D ∧ IsMap D ∧ ∀ s : List UInt8, D.atKey (.string s) (.lit (.bool false)) = .lit (.bool (f s))

theorem Seen.made (w : World) : Seen (w.alloc (.map #[] 0)) w.heap.size 0 (fun _ => false) :=
  ⟨.map [], World.ownsMap_made _ _ _ _, isMap_empty, fun _ => rfl⟩

section
variable {w w' : World} {b n : Nat} {f : List UInt8 → Bool}
theorem Seen.lt (h : Seen w b n f) : b < w.heap.size := by obtain ⟨D, h1, _⟩ := h; exact h1.lt

theorem Seen.keep (h : Seen w b n f) (hb : Below w.heap.size w w') : Seen w' b n f := by
  have hl := h.lt
  obtain ⟨D, ⟨es, clock, h1, r⟩, h2, h3⟩ := h
  exact ⟨D, ⟨es, clock, (hb.block b hl).trans h1, r⟩, h2, h3⟩

theorem Seen.cong (h : Seen w b n f) {g : List UInt8 → Bool} (e : ∀ s, f s = g s) : Seen w b n g := by
  obtain ⟨D, h1, h2, h3⟩ := h
  exact ⟨D, h1, h2, fun s => by rw [h3, e]⟩

theorem Seen.look (h : Seen w b n f) (s : List UInt8) (hs : s.length ≤ 140737488355328) : (Instr.lookup 112 (.map (some b)) (.string ⟨s.toArray⟩) false).run Try.prog w = .ok (.bool (f s)) w := by
  obtain ⟨D, h1, h2, h3⟩ := h
  have hk : keyOf Try.prog 9 (.string ⟨s.toArray⟩) = some (.string s) := WideMaps.keyOf_string_mk Try.underlying9 (by show s.toArray.size ≤ maxLen; simp; unfold maxLen; omega)
  obtain ⟨v, ps, hrun, hv⟩ := h1.lookup str_keyed Try.underlying112 (zero_bool w) (plainElem_bool Try.underlying4 false) hk
  obtain ⟨x, rfl, hx⟩ := plainBool_inv Try.underlying4 hv
  rw [h3 s] at hx
  simp only [Prod.mk.injEq, DataW.lit.injEq, Lit.bool.injEq] at hx
  rw [hrun, hx.1]

theorem Seen.store (h : Seen w b n f) (s : List UInt8) (hs : s.length ≤ 140737488355328) (hn : n ≤ 1000) : ∃ w', (Instr.mapUpdate 112 (.map (some b)) (.string ⟨s.toArray⟩) (.bool true)).run Try.prog w = .ok () w' ∧
    Seen w' b (n + 1) (fun t => f t || decide (s = t)) ∧ w.grownBy w' (some b) := by
  obtain ⟨D, h1, h2, h3⟩ := h
  have hk : keyOf Try.prog 9 (.string ⟨s.toArray⟩) = some (.string s) := WideMaps.keyOf_string_mk Try.underlying9 (by show s.toArray.size ≤ maxLen; simp; unfold maxLen; omega)
  obtain ⟨w', hrun, o, g⟩ := h1.update str_keyed Try.underlying112 (by unfold maxLen; omega) hk (plainElem_bool Try.underlying4 true)
  refine ⟨w', hrun, ⟨_, o, h2.put _ _, fun t => ?_⟩, g⟩
  by_cases e : t = s
  · subst e
    rw [atKey_put_same h2 (show WideAt.IsKeyLit (.string t) from trivial)]
    show DataW.lit (.bool true) = .lit (.bool (f t || decide (t = t)))
    rw [decide_eq_true rfl, Bool.or_true]
  · rw [atKey_put_other (by simpa using e), h3]
    show DataW.lit (.bool (f t)) = .lit (.bool (f t || decide (s = t)))
    rw [decide_eq_false (fun h : s = t => e h.symm), Bool.or_false]

end
end Go.Proofs.Ytlekjkljajeodaa

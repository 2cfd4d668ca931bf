/- Walks: wide.check, and what asks a number (Neg, Abs, Int, Bits). -/
import Derived.Test.YthlfidbhldbedaaDoorW1
import Derived.Test.YthlfidbhldbedaaDoorMath
import Derived.Test.YthlfidbhldbedaaDoorMem
namespace Go.Proofs.YthlfidbhldbedaaDoor
open Go.RowKit
attribute [local go_sem ↓] Go.wp_at_zero Go.wp_at_succ
/-- A number as it lies in memory. -/
structure WV where
  neg : Bool
  A : Option Addr
  l : List Nat
  c : Nat

/-- Numbers in the cells of a block, two cells each. -/
def Wcs (w : World) (b : Nat) (ws : List WV) : Prop :=
  ∀ i v, ws[i]? = some v → w.cell? ⟨b, i * 2, none⟩ = some (.bool v.neg) ∧ w.cell? ⟨b, i * 2 + 1, none⟩ = some (.slice v.A v.l.length v.c) ∧ Sl w v.A v.l v.c

theorem Wcs.below {w w' : World} {b : Nat} {ws : List WV} (h : Wcs w b ws) (hb : Below w.heap.size w w') : Wcs w' b ws := fun i v hv =>
  ⟨kept_cell hb (h i v hv).1, kept_cell hb (h i v hv).2.1, (h i v hv).2.2.below hb⟩

def chkW : List WV → Int
  | [] => 0
  | v :: t => if badL v.neg v.l then 8 else chkW t

set_option maxHeartbeats 1000000 in
theorem check_any (b : Nat) (ws : List WV) (hl : ws.length ≤ 1000) (w : World) (h : Wcs w b ws) :
    Calls Tryd.prog 19 #[.slice (some ⟨b, 0, none⟩) ws.length ws.length] w fun e w' => e = .returned (.int .i64 (chkW ws)) ∧ Below w.heap.size w w' := by
  have H := Lib.hid h
  clear h
  go_enter Tryd.func19, Tryd.ntmps19
  go_wp2
  go_loopw [4, 5, 8] (fun _ _ i wr => ∃ k : Nat, k ≤ ws.length ∧ i = .int .i64 k ∧ chkW (ws.drop k) = chkW ws ∧ Below w.heap.size w wr) (fun _ _ i _ => ws.length - (intOf i).toNat)
  case atStart => exact ⟨0, Nat.zero_le _, rfl, by simp, Below.refl _ _⟩
  case round =>
    obtain ⟨k, hk, rfl, hc, hb⟩ := hrel
    by_cases hlt : k < ws.length
    · obtain ⟨v, hv⟩ : ∃ v, ws[k]? = some v := ⟨_, List.getElem?_eq_getElem hlt⟩
      have hd : chkW ws = if badL v.neg v.l then 8 else chkW (ws.drop (k + 1)) := by
        rw [← hc, ← List.getElem_cons_drop hlt]
        rw [List.getElem?_eq_getElem hlt] at hv
        injection hv with hv
        rw [hv]; rfl
      obtain ⟨q0, q1, hs⟩ := (H.out.below hb) k v hv
      obtain ⟨neg, A, l, c⟩ := v
      dsimp only at q0 q1 hs hd
      have Hd := Lib.hid hd
      have Hs := Lib.hid hs
      clear hd hs hc hv
      by_cases h1 : 4096 < l.length
      · have hr : chkW ws = 8 := by rw [Hd.out, if_pos (by simp [badL, h1])]
        have Hr := Lib.hid hr
        clear hr
        go_wp2
        go_ret
        exact ⟨by rw [Hr.out]; rfl, hb.alloc hb.size _⟩
      · by_cases h2 : 0 < l.length
        · obtain ⟨b', o, rfl, hx⟩ := (Hs.out.alloc (.cells #[.bool neg, .slice A l.length c] 24)).rd.at_ (k := l.length - 1) (by omega)
          have hl0 : ((l.length : Int) == 0) = false := by rw [beq_eq_false_iff_ne]; omega
          by_cases hz : l[l.length - 1]?.getD 0 = 0
          · have hbz : (((l[l.length - 1]?.getD 0 : Nat) : Int) == 0) = true := by simpa using hz
            have hr : chkW ws = 8 := by rw [Hd.out, if_pos (by simp [badL, h2, hz])]
            have Hr := Lib.hid hr
            clear hr hz
            go_wp2
            go_ret
            exact ⟨by rw [Hr.out]; rfl, hb.alloc hb.size _⟩
          · have hbz : (((l[l.length - 1]?.getD 0 : Nat) : Int) == 0) = false := by rw [beq_eq_false_iff_ne]; omega
            have hr : chkW (ws.drop (k + 1)) = chkW ws := by rw [Hd.out, if_neg (by simp [badL, h1, hz]; intro e; subst e; simp at h2)]
            have Hr := Lib.hid hr
            clear hr hz
            go_wp2
            go_roundw
            case rel => exact ⟨k + 1, by omega, by go_num, Hr.out, hb.alloc hb.size _⟩
            case measure => simp [intOf]; omega
        · obtain rfl : l = [] := List.eq_nil_of_length_eq_zero (by omega)
          cases neg
          · have hr : chkW (ws.drop (k + 1)) = chkW ws := by rw [Hd.out, if_neg (by simp [badL])]
            have Hr := Lib.hid hr
            clear hr
            go_wp2
            go_roundw
            case rel => exact ⟨k + 1, by omega, by go_num, Hr.out, hb.alloc hb.size _⟩
            case measure => simp [intOf]; omega
          · have hr : chkW ws = 8 := by rw [Hd.out, if_pos (by simp [badL])]
            have Hr := Lib.hid hr
            clear hr
            go_wp2
            go_ret
            exact ⟨by rw [Hr.out]; rfl, hb.alloc hb.size _⟩
    · have hr : chkW ws = 0 := by rw [← hc, show ws.drop k = [] from List.drop_eq_nil_of_le (by omega)]; rfl
      have Hr := Lib.hid hr
      clear hr hc
      go_wp2
      go_ret
      exact ⟨by rw [Hr.out]; rfl, hb⟩

end Go.Proofs.YthlfidbhldbedaaDoor
/- Walks: Neg, Abs. -/
namespace Go.Proofs.YthlfidbhldbedaaDoor
open Go.RowKit
attribute [local go_sem ↓] Go.wp_at_zero Go.wp_at_succ
theorem Wcs.one {w : World} {b : Nat} {neg : Bool} {A : Option Addr} {l : List Nat} {c : Nat} (hs : Sl w A l c) (hb : b = w.heap.size) : Wcs (w.alloc (.cells #[.bool neg, .slice A l.length c] 24)) b [⟨neg, A, l, c⟩] := by
  subst hb
  intro i v hv
  match i, hv with
  | 0, hv =>
    simp only [List.getElem?_cons_zero, Option.some.injEq] at hv
    subst hv
    exact ⟨by simp, by simp, hs.alloc _⟩

theorem chkW_one (v : WV) : chkW [v] = chk v.neg v.l := rfl

end Go.Proofs.YthlfidbhldbedaaDoor

/- Walks: slices.Reverse of bytes in a row of the call's own. -/
import Derived.Test.YtejapkdhbpngbaaDoorMemB
import Derived.Test.YtejapkdhbpngbaaDoorW1
import Derived.RegionTactic
import Derived.Deep.LoopGhost
namespace Go.Proofs.YtejapkdhbpngbaaDoor
open Go.RowKit
attribute [local go_sem ↓] Go.wp_at_zero Go.wp_at_succ
/-- What stands at place i behind k rounds. -/
def rvAt (l : List UInt8) (k i : Nat) : UInt8 := if i < k ∨ l.length ≤ i + k then l[l.length - 1 - i]?.getD 0 else l[i]?.getD 0

theorem rvAt_zero (l : List UInt8) {i : Nat} (hi : i < l.length) : rvAt l 0 i = l[i]?.getD 0 := by
  unfold rvAt
  rw [if_neg (by omega)]

theorem rvAt_all (l : List UInt8) {k i : Nat} (hk : l.length ≤ 2 * k + 1) (hi : i < l.length) : rvAt l k i = l.reverse[i]?.getD 0 := by
  unfold rvAt
  rw [List.getElem?_reverse hi]
  split
  · rfl
  · have : i = l.length - 1 - i := by omega
    rw [← this]

theorem rvAt_lo (l : List UInt8) {k : Nat} (hk : 2 * k + 1 < l.length) : rvAt l k k = l[k]?.getD 0 := by
  unfold rvAt
  rw [if_neg (by omega)]

theorem rvAt_hi (l : List UInt8) {k : Nat} (hk : 2 * k + 1 < l.length) : rvAt l k (l.length - 1 - k) = l[l.length - 1 - k]?.getD 0 := by
  unfold rvAt
  rw [if_neg (by omega)]

theorem rvAt_succ (l : List UInt8) {k i : Nat} (hk : 2 * k + 1 < l.length) (hi : i < l.length) :
    rvAt l (k + 1) i = if i = k then l[l.length - 1 - k]?.getD 0 else if i = l.length - 1 - k then l[k]?.getD 0 else rvAt l k i := by
  unfold rvAt
  by_cases h1 : i = k
  · subst h1; rw [if_pos (by omega), if_pos rfl]
  · rw [if_neg h1]
    by_cases h2 : i = l.length - 1 - k
    · rw [if_pos h2, if_pos (by omega)]
      congr 2
      omega
    · rw [if_neg h2]
      by_cases h3 : i < k ∨ l.length ≤ i + k
      · rw [if_pos h3, if_pos (by omega)]
      · rw [if_neg h3, if_neg (by omega)]

theorem rv_cells {wr : World} {g k m : Nat} {l : List UInt8} {x y : UInt8} (hlm : l.length = m + k + 1) (hlt : k < m) (hx : rvAt l k k = x) (hy : rvAt l k m = y)
    (hc : ∀ i, i < l.length → wr.cell? ⟨g, i, none⟩ = some (.int .u8 ((rvAt l k i).toNat : Nat))) (i : Nat) (hi : i < l.length) :
    ((wr.setCell ⟨g, k, none⟩ (.int .u8 (y.toNat : Nat))).setCell ⟨g, m, none⟩ (.int .u8 (x.toNat : Nat))).drew.cell? ⟨g, i, none⟩ = some (.int .u8 ((rvAt l (k + 1) i).toNat : Nat)) := by
  have hm : m = l.length - 1 - k := by omega
  have e1 := rvAt_lo l (k := k) (by omega)
  have e2 := rvAt_hi l (k := k) (by omega)
  rw [← hm] at e2
  show ((wr.setCell ⟨g, k, none⟩ (.int .u8 (y.toNat : Nat))).setCell ⟨g, m, none⟩ (.int .u8 (x.toNat : Nat))).cell? ⟨g, i, none⟩ = _
  rw [rvAt_succ l (by omega) hi, ← hm, ← e1, ← e2, hx, hy]
  by_cases h1 : i = m
  · subst h1
    rw [if_neg (by omega), if_pos rfl]
    exact World.cell?_setCell_same _ _ _ (by rw [World.cell?_setCell_other _ _ _ _ (by simp <;> omega), hc i hi])
  · rw [World.cell?_setCell_other _ _ _ _ (by simp <;> omega)]
    by_cases h2 : i = k
    · subst h2
      rw [if_pos rfl]
      exact World.cell?_setCell_same _ _ _ (by rw [hc i hi])
    · rw [World.cell?_setCell_other _ _ _ _ (by simp <;> omega), if_neg h2, if_neg h1]
      exact hc i hi

set_option maxRecDepth 100000 in
set_option maxHeartbeats 1000000 in
theorem reverse_any (g c : Nat) (l : List UInt8) (w : World) (hl0 : 0 < l.length) (hl : l.length ≤ 1000000) (hc : ∀ i, i < l.length → w.cell? ⟨g, i, none⟩ = some (.int .u8 ((l[i]?.getD 0).toNat : Nat))) (hf : ∀ i, w.frozen? ⟨g, i, none⟩ = false) :
    Calls Tryd.prog 51 #[.slice (some ⟨g, 0, none⟩) l.length c] w fun e w' => e = .returned (.tuple #[]) ∧ (∀ i, i < l.length → w'.cell? ⟨g, i, none⟩ = some (.int .u8 ((l.reverse[i]?.getD 0).toNat : Nat))) ∧ But g w w' := by
  have Hc : Hid (∀ i, i < l.length → w.cell? ⟨g, i, none⟩ = some (.int .u8 ((rvAt l 0 i).toNat : Nat))) := fun i hi => by rw [rvAt_zero l hi]; exact hc i hi
  have Hf := Lib.hid hf
  clear hc hf
  go_enter Tryd.func51, Tryd.ntmps51
  go_wp2
  go_loopg [2, 3] l.length (fun gh i j wr => ∃ k m : Nat, l.length = m + k + 1 ∧ k ≤ m + 1 ∧ gh + k = l.length ∧ i = .int .i64 k ∧ j = .int .i64 m ∧ (∀ i, i < l.length → wr.cell? ⟨g, i, none⟩ = some (.int .u8 ((rvAt l k i).toNat : Nat))) ∧ (∀ i, wr.frozen? ⟨g, i, none⟩ = false) ∧ But g w wr)
  case atStart => exact ⟨0, l.length - 1, by omega, by omega, by omega, rfl, by congr 1; omega, Hc.out, Hf.out, But.refl _ _⟩
  case round =>
    clear Hc Hf
    obtain ⟨k, m, hlm, hkm, hgk, rfl, rfl, hc, hf, hb⟩ := hrel
    have Hc := Lib.hid hc
    have Hf := Lib.hid hf
    have Hb := Lib.hid hb
    have Hlm := Lib.hid hlm
    have hkl : k < l.length := by omega
    have hml : m < l.length := by omega
    have hkm2 : k ≤ m + 1 := hkm
    have hgk2 : k ≤ 1000000 := by omega
    have hgm2 : m ≤ 1000000 := by omega
    clear hc hf hb hlm
    by_cases hlt : k < m
    · have hck := Hc.out k hkl
      have hcm := Hc.out m hml
      have hfk := Hf.out k
      have hfm := Hf.out m
      generalize hx : rvAt l k k = x at *
      generalize hy : rvAt l k m = y at *
      have Hx := Lib.hid hx
      have Hy := Lib.hid hy
      clear hx hy
      go_wp2
      go_region
      go_wp2
      go_roundg (gk - 1)
      case rel => exact ⟨k + 1, m - 1, by have := Hlm.out; omega, by omega, by omega, by go_num, by congr 1; omega, rv_cells Hlm.out hlt Hx.out Hy.out Hc.out, fun i => by rw [World.frozen?_drew, World.frozen?_setCell, World.frozen?_setCell]; exact Hf.out i, ((Hb.out.set ⟨g, k, none⟩ rfl _).set ⟨g, m, none⟩ rfl _).drew⟩
      case measure => omega
    · go_wp2
      go_end0
      exact ⟨rfl, fun i hi => by rw [← rvAt_all l (k := k) (by have := Hlm.out; omega) hi]; exact Hc.out i hi, Hb.out⟩

end Go.Proofs.YtejapkdhbpngbaaDoor

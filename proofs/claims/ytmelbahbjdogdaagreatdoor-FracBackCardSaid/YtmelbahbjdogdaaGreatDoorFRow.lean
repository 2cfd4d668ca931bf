/- A fraction that came in: the signs and limbs of its two numbers, as they lie. -/
import Derived.Test.YtmelbahbjdogdaaGreatDoorRow
import Derived.Test.YtmelbahbjdogdaaGreatDoorFMath
namespace Go.Proofs.YtmelbahbjdogdaaGreatDoor
open Go.ChangeShapes Go.WideShapes Go.ChangeAt Go.RowKit Go.Joins
theorem cells_frac : Tryz.prog.cellsOf 26 = 4 := by kernel_rfl

section
variable {H : Type} {enc : TypeId × Value → H}
set_option maxRecDepth 100000 in
theorem open_wide_cells {W : World} {v0 v1 : Value} {y0 y1 : DataW H × List MemPlace} {m : Nat}
    (h0 : DataW.trod enc Tryz.prog W 0 (fun _ => true) true m 4 [v0] = some y0) (h1 : DataW.trod enc Tryz.prog W 0 (fun _ => true) true m 22 [v1] = some y1)
    (hw : ∀ n ∈ DataW.weights Tryz.prog 22 y1.1, n ≤ reachBytes) :
    ∃ (neg : Bool) (A : Option Addr) (l : List Nat) (c : Nat), v0 = .bool neg ∧ v1 = .slice A l.length c ∧ Sl W A l c := by
  obtain ⟨neg, e0, _⟩ := DataW.trod_bool Tryz.underlying4 h0
  simp only [List.cons.injEq, and_true] at e0
  subst e0
  rcases open_ints Tryz.underlying22 Tryz.underlying50 cells_u32 h1 with ⟨e1, _⟩ | ⟨a, len, cap, zs, e1, _, hl, hm, hz, hx, hcell, hwf⟩
  · simp only [List.cons.injEq, and_true] at e1
    subst e1
    exact ⟨neg, none, [], 0, rfl, rfl, Sl.nil _ _ _⟩
  · simp only [List.cons.injEq, and_true] at e1
    subst e1
    simp only [if_true] at hz
    have hlen : len * 4 ≤ reachBytes := by
      have := hw ((zs.take len).length * 4 + (zs.drop len).length * 4) (by
        rw [hx]
        simp [DataW.weights, Tryz.underlying22, bytes_u32, lits, ← Nat.add_mul])
      rw [List.length_take, List.length_drop] at this
      omega
    have hrange : ∀ i, 0 ≤ zs.getD i 0 ∧ zs.getD i 0 < 4294967296 := fun i => by
      by_cases hi : i < zs.length
      · have := hwf _ (List.getElem_mem hi)
        rw [List.getD_eq_getElem?_getD, List.getElem?_eq_getElem hi, Option.getD_some]
        have h2 := bounds_u32 this
        omega
      · rw [List.getD_eq_getElem?_getD, List.getElem?_eq_none (by omega)]; simp
    have hget : ∀ i, i < len → ((zs.take len).map Int.toNat)[i]?.getD 0 = (zs.getD i 0).toNat := fun i hi => by
      rw [List.getElem?_map, List.getElem?_take_of_lt hi, List.getD_eq_getElem?_getD]
      cases zs[i]? <;> simp
    have hl2 : ((zs.take len).map Int.toNat).length = len := by simp; omega
    refine ⟨neg, some a, (zs.take len).map Int.toNat, cap, rfl, by rw [hl2], ⟨fun hp => ?_, fun x hx => ?_, by omega, by have : reachBytes = 140737488351232 := rfl; omega⟩⟩
    · rw [hl2] at hp
      obtain ⟨b, off, spot⟩ := a
      have hspot : spot = none := by simpa [Addr.add] using World.cell?_spot (hcell 0 (by omega))
      subst hspot
      refine ⟨b, off, rfl, fun i hi => ?_⟩
      rw [hl2] at hi
      rw [hget i hi, Int.toNat_of_nonneg (hrange i).1, ← add_plain]
      exact hcell i (by omega)
    · obtain ⟨i, hi, rfl⟩ := List.getElem_of_mem hx
      rw [hl2] at hi
      have h2 := hget i hi
      rw [List.getElem?_eq_getElem (by rw [hl2]; exact hi), Option.getD_some] at h2
      have h3 := hrange i
      rw [h2]
      omega

set_option maxRecDepth 100000 in
theorem open_frac {r : Reach} {b0 : Nat} {W : World} {v : Value} {d : DataW H} {p : List MemPlace} (hv : Value.okWide Tryz.prog W r b0 26 v)
    (h : DataW.Trod enc Tryz.prog W 0 (fun _ => true) true 26 v d p) (hw : ∀ n ∈ d.weights Tryz.prog 26, n ≤ reachBytes) :
    ∃ (n1 : Bool) (A1 : Option Addr) (l1 : List Nat) (c1 : Nat) (n2 : Bool) (A2 : Option Addr) (l2 : List Nat) (c2 : Nat),
      v = .agg #[.bool n1, .slice A1 l1.length c1, .bool n2, .slice A2 l2.length c2] ∧ Sl W A1 l1 c1 ∧ Sl W A2 l2 c2 := by
  obtain ⟨cs, rfl, hsz⟩ := okWide_struct Tryz.underlying26 hv
  obtain ⟨v0, v1, v2, v3, rfl⟩ := array4 (hsz.trans cells_frac)
  obtain ⟨fuel, hf⟩ := h
  obtain ⟨y0, y1, n, hx, _, h0, h1⟩ := trod_struct2 Tryz.underlying26 hf
  simp only [Prod.mk.injEq] at hx
  obtain ⟨rfl, _⟩ := hx
  simp [Value.cells, cells_wide] at h0 h1
  obtain ⟨y00, y01, m, hx0, _, h00, h01⟩ := trod_struct2 Tryz.underlying24 h0
  obtain ⟨y10, y11, m', hx1, _, h10, h11⟩ := trod_struct2 Tryz.underlying24 h1
  simp [show Tryz.prog.cellsOf 4 = 1 by kernel_rfl, show Tryz.prog.cellsOf 22 = 1 by kernel_rfl] at h00 h01 h10 h11
  subst hx0 hx1
  obtain ⟨n1, A1, l1, c1, rfl, rfl, s1⟩ := open_wide_cells h00 h01 (fun k hk => hw k (by
    simp [DataW.weights, DataW.weightsEach, Tryz.underlying26, Tryz.underlying24]
    exact .inr (.inl hk)))
  obtain ⟨n2, A2, l2, c2, rfl, rfl, s2⟩ := open_wide_cells h10 h11 (fun k hk => hw k (by
    simp [DataW.weights, DataW.weightsEach, Tryz.underlying26, Tryz.underlying24]
    exact .inr (.inr (.inr hk))))
  exact ⟨n1, A1, l1, c1, n2, A2, l2, c2, rfl, s1, s2⟩

end
end Go.Proofs.YtmelbahbjdogdaaGreatDoor

/- A field that came in: its sides and its numbers, as they lie. -/
import Derived.Test.YtlekjkljajeodaaGreatRow
import Derived.Test.YtlekjkljajeodaaGreatCal2
import Derived.Deep.Strs
namespace Go.Proofs.YtlekjkljajeodaaGreat
open Go.ChangeShapes Go.WideShapes Go.ChangeAt Go.RowKit Go.Joins
theorem cells_field : Tryz.prog.cellsOf 24 = 3 := by kernel_rfl

theorem cells_i64 : Tryz.prog.cellsOf 2 = 1 := by kernel_rfl

theorem bytes_i64 : Tryz.prog.bytesOf 2 = 8 := by kernel_rfl

section
variable {H : Type} {enc : TypeId × Value → H}
set_option maxRecDepth 100000 in
theorem open_i64s {W : World} {v : Value} {y : DataW H × List MemPlace} {m : Nat}
    (h : DataW.trod enc Tryz.prog W 0 (fun _ => true) true m 22 [v] = some y)
    (hw : ∀ n ∈ DataW.weights Tryz.prog 22 y.1, n ≤ reachBytes) :
    ∃ (A : Option Addr) (l : List Int) (c : Nat), v = .slice A l.length c ∧ SlI W W.heap.size A l c := by
  rcases open_ints Tryz.underlying22 Tryz.underlying2 cells_i64 h with ⟨e1, _⟩ | ⟨a, len, cap, zs, e1, _, hl, hm, hz, hx, hcell, hwf⟩
  · simp only [List.cons.injEq, and_true] at e1
    subst e1
    exact ⟨none, [], 0, rfl, SlI.nil _ _ _ _⟩
  · simp only [List.cons.injEq, and_true] at e1
    subst e1
    simp only [if_true] at hz
    have hlen : len * 8 ≤ reachBytes := by
      have := hw ((zs.take len).length * 8 + (zs.drop len).length * 8) (by
        rw [hx]
        simp [DataW.weights, Tryz.underlying22, bytes_i64, lits, ← Nat.add_mul])
      rw [List.length_take, List.length_drop] at this
      omega
    have hl2 : (zs.take len).length = len := by simp; omega
    refine ⟨some a, zs.take len, cap, by rw [hl2], ⟨fun hp => ?_, fun x hx => ?_, by omega, by have : reachBytes = 140737488351232 := rfl; omega⟩⟩
    · rw [cI_length, hl2] at hp
      obtain ⟨b, off, spot⟩ := a
      have hspot : spot = none := by simpa [Addr.add] using World.cell?_spot (hcell 0 (by omega))
      subst hspot
      have hc : ∀ i v, (cI (zs.take len))[i]? = some v → W.cell? ⟨b, off + i, none⟩ = some v := fun i v hv => by
        have hi : i < len := by
          have := (List.getElem?_eq_some_iff.1 hv).1
          rwa [cI_length, hl2] at this
        have h1 := hcell i (by omega)
        rw [add_plain] at h1
        rw [h1, ← hv]
        simp [cI, List.getElem?_take_of_lt hi, List.getElem?_eq_getElem (show i < zs.length by omega)]
      refine ⟨b, off, rfl, ?_, hc⟩
      have := lt_of_cell (hc 0 _ (List.getElem?_eq_getElem (by rw [cI_length, hl2]; exact hp)))
      simpa using this
    · exact bounds_i64 (hwf x (List.mem_of_mem_take hx))

set_option maxRecDepth 100000 in
theorem open_field {r : Reach} {b0 : Nat} {W : World} {v : Value} {d : DataW H} {p : List MemPlace} (hv : Value.okWide Tryz.prog W r b0 24 v)
    (h : DataW.Trod enc Tryz.prog W 0 (fun _ => true) true 24 v d p) (hw : ∀ n ∈ d.weights Tryz.prog 24, n ≤ reachBytes) :
    ∃ f : FD, v = .agg #[.int .i64 f.W, .int .i64 f.H, .slice f.A f.l.length f.c] ∧ OkD W W.heap.size f := by
  obtain ⟨cs, rfl, hsz⟩ := okWide_struct Tryz.underlying24 hv
  obtain ⟨v0, v1, v2, rfl⟩ := array3 (hsz.trans cells_field)
  obtain ⟨fuel, hf⟩ := h
  obtain ⟨y0, y1, y2, n, hx, _, h0, h1, h2⟩ := Go.Deep.trod_struct3 Tryz.underlying24 hf
  simp only [Prod.mk.injEq] at hx
  obtain ⟨rfl, _⟩ := hx
  simp [Value.cells, show Tryz.prog.cellsOf 3 = 1 by kernel_rfl, show Tryz.prog.cellsOf 22 = 1 by kernel_rfl] at h0 h1 h2
  obtain ⟨n0, e0, _, w0⟩ := DataW.trod_int Tryz.underlying3 h0
  obtain ⟨n1, e1, _, w1⟩ := DataW.trod_int Tryz.underlying3 h1
  simp only [List.cons.injEq, and_true] at e0 e1
  subst e0 e1
  obtain ⟨A, l, c, rfl, s⟩ := open_i64s h2 (fun k hk => hw k (by
    simp [DataW.weights, DataW.weightsEach, Tryz.underlying24]
    exact .inr (.inr hk)))
  have b0 := bounds_i64 w0
  have b1 := bounds_i64 w1
  exact ⟨⟨n0, n1, A, l, c⟩, rfl, ⟨s, b0.1, b0.2, b1.1, b1.2⟩⟩

end
end Go.Proofs.YtlekjkljajeodaaGreat

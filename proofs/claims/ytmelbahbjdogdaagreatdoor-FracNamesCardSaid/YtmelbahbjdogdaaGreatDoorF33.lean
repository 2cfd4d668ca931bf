/- Walks: frac.Sum of nil; the law FracNames. -/
import Derived.Test.YtmelbahbjdogdaaGreatDoorF26
import Derived.Test.YtmelbahbjdogdaaGreatDoorFMathB
import Derived.Deep.CutRange
namespace Go.Proofs.YtmelbahbjdogdaaGreatDoor
open Go.RowKit
attribute [local go_sem ↓] Go.wp_at_zero Go.wp_at_succ
theorem alive_true3 (w : World) : Calls Tryz.prog 17 #[] w fun e w' => e = .returned (.bool true) ∧ Below w.heap.size w w' := alive_any w

def zrow8 (n : Nat) : Array Value := Array.replicate n (.int .u8 0)

theorem zrow8_size (n : Nat) : (zrow8 n).size = n := by simp [zrow8]

theorem run_make8 {P : Program} (t e : TypeId) (i : TypeInfo) (ht : P.underlying t = some (.slice e)) (hi : P.info? e = some i) (hz : i.zero = some (.int .u8 0)) (hsize : i.size = 1) (hby : i.bytes = 1)
    (L C : Int) (n c : Nat) (hL : L = n) (hC : C = c) (hnc : n ≤ c) (hb : c ≤ 35184372088832) (w : World) :
    (Instr.makeSlice t (.int .i64 L) (.int .i64 C)).run P w = .ok (.slice (some ⟨w.heap.size, 0, none⟩) n c) (w.alloc (.cells (zrow8 c) e)) := by
  subst hL
  subst hC
  have hr := run_make (P := P) w t e i (.int .u8 0) ht hi hz .i64 .i64 n c (by omega) (by omega) (by rw [hby]; omega) (by omega)
  rw [hr, hsize]
  simp only [Int.toNat_natCast, Nat.mul_one]
  congr 3
  simp [zrow8, madeCells, Value.cells, Array.ext_iff, Nat.mod_one]

/-- A block known whole, whatever its cells. -/
def BlkV (w : World) (g : Nat) (t : TypeId) (cs : Array Value) : Prop := w.heap[g]? = some (.cells cs t (0, 0))

section
variable {w w' : World} {g : Nat} {t : TypeId} {cs : Array Value}
theorem BlkV.lt (h : BlkV w g t cs) : g < w.heap.size := lt_of_block h

theorem BlkV.cell (h : BlkV w g t cs) (i : Nat) : w.cell? ⟨g, i, none⟩ = cs[i]? := cell_of_row w g i cs t (0, 0) h

theorem BlkV.frozen (h : BlkV w g t cs) (i : Nat) : w.frozen? ⟨g, i, none⟩ = false := by
  unfold BlkV at h
  simp [World.frozen?, h]

theorem BlkV.new {g : Nat} (w : World) (hg : g = w.heap.size) (t : TypeId) (cs : Array Value) : BlkV (w.alloc (.cells cs t)) g t cs := by subst hg; exact heap_alloc_new w _

theorem BlkV.drew (h : BlkV w g t cs) : BlkV w.drew g t cs := h

theorem BlkV.alloc (h : BlkV w g t cs) (o : Obj) : BlkV (w.alloc o) g t cs := (Below.heap_alloc w o g h.lt).trans h

theorem BlkV.set_ (h : BlkV w g t cs) (i : Nat) (u : Value) : BlkV (w.setCell ⟨g, i, none⟩ u) g t (cs.setIfInBounds i u) := by
  unfold BlkV at h ⊢
  simp [World.setCell, Array.getElem?_modify, h]

theorem BlkV.keep (h : BlkV w g t cs) (hb : Below w.heap.size w w') : BlkV w' g t cs := (hb.block g h.lt).trans h

end
/-- A fraction that is not valid, by its numbers. -/
theorem bad_of {n1 n2 : Bool} {l1 l2 : List Nat} {a b : Int} (va : VZ n1 l1 a) (vb : VZ n2 l2 b) (h : ¬ (0 < b ∧ Int.gcd a b = 1)) : badF n1 l1 n2 l2 = true := by
  cases hb : badF n1 l1 n2 l2 with
  | true => rfl
  | false =>
    have v := vf_of va.canon.1 vb.canon.1 hb
    rw [va.zv_eq, vb.zv_eq] at v
    exact absurd ⟨v.pos, v.one⟩ h

theorem par_none {s : List UInt8} (h : parQ s = none) : parF s = (zF, 12) := by unfold parF; rw [h]

theorem par_zero {s : List UInt8} {x : Int} (h : parQ s = some (x, 0)) : parF s = (zF, 18) := by unfold parF; rw [h]; rfl

/-- So many digits 1. -/
theorem par_ones : ∃ a b : Int, ∃ f : (Bool × List Nat) × (Bool × List Nat), parF (List.replicate 200 49) = (f, 0) ∧ VF f.1.1 f.1.2 f.2.1 f.2.2 a b := by
  have hd : Dig (List.replicate 200 (49 : UInt8)) := fun c hc => by rw [(List.mem_replicate.1 hc).2]; decide
  have hl : (List.replicate 200 (49 : UInt8)).length = 200 := List.length_replicate
  generalize List.replicate 200 (49 : UInt8) = d at *
  have hne : d ≠ [] := fun e => by rw [e] at hl; simp at hl
  have hq : parQ ((if ((dv d : Nat) : Int) < 0 then [45] else []) ++ (d ++ [])) = some (((dv d : Nat) : Int), 1) := by
    rw [parQ_of hd hne (fun _ _ e => by cases e) (by rw [if_neg (by omega)]; simp [hl]), restQ_nil _ _ (by simp)]
  rw [if_neg (by omega), List.nil_append, List.append_nil] at hq
  obtain ⟨a, b, v, -⟩ := red_vf (x := ((dv d : Nat) : Int)) (y := 1) (by omega) (fit_dv hd (by omega)) fit_one
  refine ⟨a, b, redZ ((dv d : Nat) : Int) 1, ?_, v⟩
  unfold parF
  rw [hq]
  show ofS _ _ = _
  unfold ofS
  rw [if_neg (by omega)]

theorem par_ones1 : parF (List.replicate 201 49) = (zF, 12) := par_none (by unfold parQ; rw [if_pos (by rw [List.length_replicate]; omega)])

theorem dec_half : fdecS (wOf 1).1 (wOf 1).2 (wOf 2).1 (wOf 2).2 0 = ([48], 0) := by
  have := dec_low (u := 1) (v := 2) (q := 0) (k := 0) (low (a := 1) (b := 2) (by omega) (by decide) (by decide) (by decide)) (by omega) (by decide) (by omega) (by decide) (by decide) (by decide) (by decide)
  rw [show ((0 : Nat) : Int) = 0 from rfl] at this
  rw [this]
  decide

theorem dec_m31 : fdecS (wOf (-31)).1 (wOf (-31)).2 (wOf 2).1 (wOf 2).2 0 = ([45, 49, 54], 0) := by
  have := dec_low (u := -31) (v := 2) (q := -16) (k := 0) (low (a := -31) (b := 2) (by omega) (by decide) (by decide) (by decide)) (by omega) (by decide) (by omega) (by decide) (by decide) (by decide) (by decide)
  rw [show ((0 : Nat) : Int) = 0 from rfl] at this
  rw [this]
  decide

set_option maxRecDepth 100000 in
set_option maxHeartbeats 4000000 in
theorem fsum_nil (w : World) : Calls Tryz.prog 41 #[.slice none 0 0] w (FRes ((wOf 0, wOf 1), 0) w) := by
  obtain ⟨⟨np0, lp0⟩, h0⟩ : ∃ p, p = wOf 0 := ⟨_, rfl⟩
  obtain ⟨⟨np1, lp1⟩, h1⟩ : ∃ p, p = wOf 1 := ⟨_, rfl⟩
  have hOf : Hid (∀ W, Calls Tryz.prog 39 #[.int .i64 0, .int .i64 1] W (FRes (((np0, lp0), (np1, lp1)), 0) W)) := fun W => by
    have h := of_any 0 1 (by omega) (by omega) (by omega) (by omega) W
    rw [of_low (x := 0) (y := 1) (a := 0) (b := 1) (by omega) (by omega) (by omega) (by decide) (by decide) (by decide), ← h0, ← h1] at h
    exact h
  rw [← h0, ← h1]
  clear h0 h1
  have B : Hid (Below w.heap.size w w) := Below.refl _ _
  go_enter Tryz.func41, Tryz.ntmps41
  go_wp2
  go_loop [12] (fun v => v = .int .i64 0) (fun _ => 0)
  case atStart => rfl
  case round =>
    obtain rfl := hrel
    go_wp2_with fail
    refine (hOf.out _).mono ?_
    rintro e w1 ⟨A1, c1, B1, d1, rfl, hs1, ht1, hb⟩
    have Fo : Hid (Ff w1 w.heap.size) := Ff.keep (Ff.fresh (by simp) _ _) (Cf.fresh (by simp) _ _ _ _ _ _ _ _ _) hb
    have Ko : Hid (Cf w1 w.heap.size false none 0 0 false none 0 0) := Cf.keep (Cf.fresh (by simp) _ _ _ _ _ _ _ _ _) hb
    replace B : Hid (Below w.heap.size w w1) := below_mono (below_mono B.out (blw1 _ _)) hb
    clear hb
    (try dsimp only at hs1 ht1)
    (try dsimp only)
    have Ss1 : Hid (Sl w1 A1 lp0 c1) := hs1
    clear hs1
    have Ss2 : Hid (Sl w1 B1 lp1 d1) := ht1
    clear ht1
    have hzo : w.heap.size < w1.heap.size := lt_of_cell (a := ⟨w.heap.size, 0, none⟩) Ko.out.1
    have hkos := hzo
    go_wp2
    replace Ss1 : Hid (Sl (w1.alloc (.cells #[.bool np0, .slice A1 lp0.length c1, .bool np1, .slice B1 lp1.length d1] 26)) A1 lp0 c1) := (Ss1.out.alloc _)
    replace Ss2 : Hid (Sl (w1.alloc (.cells #[.bool np0, .slice A1 lp0.length c1, .bool np1, .slice B1 lp1.length d1] 26)) B1 lp1 d1) := (Ss2.out.alloc _)
    replace Fo : Hid (Ff (w1.alloc (.cells #[.bool np0, .slice A1 lp0.length c1, .bool np1, .slice B1 lp1.length d1] 26)) w.heap.size) := (Ff.keep Fo.out Ko.out (blw1 _ _))
    replace Ko : Hid (Cf (w1.alloc (.cells #[.bool np0, .slice A1 lp0.length c1, .bool np1, .slice B1 lp1.length d1] 26)) w.heap.size false none 0 0 false none 0 0) := (Cf.keep Ko.out (blw1 _ _))
    have Ks : Hid (Cf (w1.alloc (.cells #[.bool np0, .slice A1 lp0.length c1, .bool np1, .slice B1 lp1.length d1] 26)) w1.heap.size np0 A1 lp0.length c1 np1 B1 lp1.length d1) := (Cf.fresh (by simp) _ _ _ _ _ _ _ _ _)
    replace B : Hid (Below w.heap.size w (w1.alloc (.cells #[.bool np0, .slice A1 lp0.length c1, .bool np1, .slice B1 lp1.length d1] 26))) := (below_mono B.out (blw1 _ _))
    generalize w1.alloc (.cells #[.bool np0, .slice A1 lp0.length c1, .bool np1, .slice B1 lp1.length d1] 26) = ws at *
    have hzo : w.heap.size < ws.heap.size := lt_of_cell (a := ⟨w.heap.size, 0, none⟩) Ko.out.1
    have hzs : w1.heap.size < ws.heap.size := lt_of_cell (a := ⟨w1.heap.size, 0, none⟩) Ks.out.1
    go_loop [8, 9] (fun e v => e = .int .i64 0 ∧ v = .int .i64 0) (fun _ _ => 0)
    case atStart => exact ⟨rfl, rfl⟩
    case round =>
      obtain ⟨rfl, rfl⟩ := hrel
      obtain ⟨qo0, qo1, qo2, qo3⟩ := Ko.out
      obtain ⟨fo0, fo1, fo2, fo3⟩ := Fo.out
      obtain ⟨qs0, qs1, qs2, qs3⟩ := Ks.out
      go_wp2
      exact bodyPost_ret (v := .tuple #[.agg #[.bool np0, .slice A1 lp0.length c1, .bool np1, .slice B1 lp1.length d1], .int .i64 0]) (by simp [results, Tryz.results41, go_sem, qo0, qo1, qo2, qo3]) rfl (fres_store4 (r := ((np0, lp0), (np1, lp1))) 0 Ss1.out Ss2.out Ko.out B.out (by omega) _ _ _ _)

set_option maxRecDepth 100000 in
set_option maxHeartbeats 4000000 in
theorem fracNames_walk (w : World) :
    Calls Tryz.prog 7 #[] w fun e w' => e = .returned (.bool true) ∧ Below w.heap.size w w' := by
  have vm31 : VZ (wOf (-31)).1 (wOf (-31)).2 (-31) := vz_wOf (fit_small (by decide))
  have vm1 : VZ (wOf (-1)).1 (wOf (-1)).2 (-1) := vz_wOf (fit_small (by decide))
  have vp0 : VZ (wOf 0).1 (wOf 0).2 0 := vz_wOf (fit_small (by decide))
  have vp1 : VZ (wOf 1).1 (wOf 1).2 1 := vz_wOf (fit_small (by decide))
  have vp2 : VZ (wOf 2).1 (wOf 2).2 2 := vz_wOf (fit_small (by decide))
  have vp3 : VZ (wOf 3).1 (wOf 3).2 3 := vz_wOf (fit_small (by decide))
  have vp40 : VZ (wOf 40).1 (wOf 40).2 40 := vz_wOf (fit_small (by decide))
  have ez : chkF false [] false [] = 8 := by unfold chkF; rw [show badF false [] false [] = true by decide]; rfl
  have e22 : chkF (wOf 2).1 (wOf 2).2 (wOf 2).1 (wOf 2).2 = 8 := by unfold chkF; rw [bad_of vp2 vp2 (by decide)]; rfl
  have e2m : chkF (wOf 2).1 (wOf 2).2 (wOf (-1)).1 (wOf (-1)).2 = 8 := by unfold chkF; rw [bad_of vp2 vm1 (by decide)]; rfl
  have e01 : chkF (wOf 0).1 (wOf 0).2 (wOf 1).1 (wOf 1).2 = 0 := (low (a := 0) (b := 1) (by omega) (by decide) (by decide) (by decide)).chk
  have o05 : (ofS 0 5).1 = (wOf 0, wOf 1) := congrArg Prod.fst (of_low (x := 0) (y := 5) (a := 0) (b := 1) (by omega) (by omega) (by omega) (by decide) (by decide) (by decide))
  have o12 : (ofS 1 2).1 = (wOf 1, wOf 2) := congrArg Prod.fst (of_low (x := 1) (y := 2) (a := 1) (b := 2) (by omega) (by omega) (by omega) (by decide) (by decide) (by decide))
  have o01 : (ofS 0 1).1 = (wOf 0, wOf 1) := congrArg Prod.fst (of_low (x := 0) (y := 1) (a := 0) (b := 1) (by omega) (by omega) (by omega) (by decide) (by decide) (by decide))
  have o31 : (ofS (-31) 2).1 = (wOf (-31), wOf 2) := congrArg Prod.fst (of_low (x := -31) (y := 2) (a := -31) (b := 2) (by omega) (by omega) (by omega) (by decide) (by decide) (by decide))
  have o340 : (ofS 3 40).1 = (wOf 3, wOf 40) := congrArg Prod.fst (of_low (x := 3) (y := 40) (a := 3) (b := 40) (by omega) (by omega) (by omega) (by decide) (by decide) (by decide))
  have o11 : (ofS 1 1).1 = (wOf 1, wOf 1) := congrArg Prod.fst (of_low (x := 1) (y := 1) (a := 1) (b := 1) (by omega) (by omega) (by omega) (by decide) (by decide) (by decide))
  have omm : ofS (-9223372036854775808) (-9223372036854775808) = ((wOf 1, wOf 1), 0) := of_low (x := -9223372036854775808) (y := -9223372036854775808) (a := 1) (b := 1) (by omega) (by omega) (by omega) (by decide) (by decide) (by decide)
  have o10 : ofS 1 0 = (zF, 18) := rfl
  have edv : bothF (wOf 1).1 (wOf 1).2 (wOf 2).1 (wOf 2).2 (wOf 0).1 (wOf 0).2 (wOf 1).1 (wOf 1).2 divV = (zF, 18) := by rw [both_good (low (a := 1) (b := 2) (by omega) (by decide) (by decide) (by decide)) (low (a := 0) (b := 1) (by omega) (by decide) (by decide) (by decide))]; rfl
  have ead : bothF false [] false [] (wOf 1).1 (wOf 1).2 (wOf 2).1 (wOf 2).2 addV = (zF, 8) := by unfold bothF; rw [show badF false [] false [] = true by decide]; rfl
  have b12 : badF (wOf 1).1 (wOf 1).2 (wOf 2).1 (wOf 2).2 = false := (low (a := 1) (b := 2) (by omega) (by decide) (by decide) (by decide)).good
  have b31 : badF (wOf (-31)).1 (wOf (-31)).2 (wOf 2).1 (wOf 2).2 = false := (low (a := -31) (b := 2) (by omega) (by decide) (by decide) (by decide)).good
  have eh : fdecS (wOf 1).1 (wOf 1).2 (wOf 2).1 (wOf 2).2 0 = ([48], 0) := dec_half
  have ek : fdecS (wOf (-31)).1 (wOf (-31)).2 (wOf 2).1 (wOf 2).2 0 = ([45, 49, 54], 0) := dec_m31
  have s1 : parF [46, 53] = (zF, 12) := par_none (by decide)
  have s2 : parF [49, 47, 48] = (zF, 18) := par_zero (x := 1) (by decide)
  have s3 : parF [49, 46, 101, 53] = (zF, 12) := par_none (by decide)
  have s4 : parF [43, 49] = (zF, 12) := par_none (by decide)
  have s5 : parF [49, 101, 49, 48, 48, 48] = (zF, 12) := par_none (by decide)
  have s6 : parF [48, 48, 55, 46, 53, 48, 101, 45, 50] = ((wOf 3, wOf 40), 0) := par_low (x := 750) (y := 10000) (by decide) (by omega) (by omega) (by omega) (by decide) (by decide) (by decide)
  have llp1 : (wOf 1).2.length ≤ 1000 := Nat.le_trans (len_of_lt (k := 2) vp1 (by decide)) (by omega)
  have llp2 : (wOf 2).2.length ≤ 1000 := Nat.le_trans (len_of_lt (k := 2) vp2 (by decide)) (by omega)
  have llm31 : (wOf (-31)).2.length ≤ 1000 := Nat.le_trans (len_of_lt (k := 2) vm31 (by decide)) (by omega)
  have hT : Hid (∀ W, Calls Tryz.prog 30 #[.int .i64 2] W (WRes1 (wOf 2) W)) := fun W => rfrom_any 2 W (by omega) (by omega)
  have hM : Hid (∀ W, Calls Tryz.prog 30 #[.int .i64 (-1)] W (WRes1 (wOf (-1)) W)) := fun W => rfrom_any (-1) W (by omega) (by omega)
  have hP5 : Hid (∀ W, Calls Tryz.prog 33 #[.int .i64 0, .int .i64 5] W (FRes1 (wOf 0, wOf 1) W)) := fun W => by have h := part_any 0 5 (by omega) (by omega) (by omega) (by omega) W; rw [o05] at h; exact h
  have hSm : Hid (∀ W, Calls Tryz.prog 41 #[.slice none 0 0] W (FRes ((wOf 0, wOf 1), 0) W)) := fun W => fsum_nil W
  have hZ : Hid (∀ W, Calls Tryz.prog 38 #[.agg #[.bool false, .slice none 0 0, .bool false, .slice none 0 0]] W fun e w' => e = .returned (.int .i64 8) ∧ Below W.heap.size W w') := fun W => by have h := fcheck_any false false none none [] [] 0 0 W (Sl.nil _ _ _) (Sl.nil _ _ _); rw [ez] at h; exact h
  obtain ⟨⟨nm31, lm31⟩, hm31⟩ : ∃ p, p = wOf (-31) := ⟨_, rfl⟩
  rw [← hm31] at o31 b31 ek llm31
  obtain ⟨⟨nm1, lm1⟩, hm1⟩ : ∃ p, p = wOf (-1) := ⟨_, rfl⟩
  rw [← hm1] at e2m hM
  obtain ⟨⟨np0, lp0⟩, hp0⟩ : ∃ p, p = wOf 0 := ⟨_, rfl⟩
  rw [← hp0] at e01 o05 o01 edv hP5 hSm
  obtain ⟨⟨np1, lp1⟩, hp1⟩ : ∃ p, p = wOf 1 := ⟨_, rfl⟩
  rw [← hp1] at e01 o05 o12 o01 o11 omm edv ead b12 eh llp1 hP5 hSm
  obtain ⟨⟨np2, lp2⟩, hp2⟩ : ∃ p, p = wOf 2 := ⟨_, rfl⟩
  rw [← hp2] at e22 e2m o12 o31 edv ead b12 b31 eh ek llp2 hT
  obtain ⟨⟨np3, lp3⟩, hp3⟩ : ∃ p, p = wOf 3 := ⟨_, rfl⟩
  rw [← hp3] at o340 s6
  obtain ⟨⟨np40, lp40⟩, hp40⟩ : ∃ p, p = wOf 40 := ⟨_, rfl⟩
  rw [← hp40] at o340 s6
  obtain ⟨fa, fb, ⟨⟨nu, lu⟩, ⟨nv, lv⟩⟩, on0, vo⟩ := par_ones
  have on1 := vo.chk
  have on2 := par_ones1
  obtain ⟨L0, hL0⟩ : ∃ l, l = List.replicate 200 (49 : UInt8) := ⟨_, rfl⟩
  obtain ⟨L1, hL1⟩ : ∃ l, l = List.replicate 201 (49 : UInt8) := ⟨_, rfl⟩
  rw [← hL0] at on0
  rw [← hL1] at on2
  have lL0 : L0.length = 200 := by rw [hL0, List.length_replicate]
  have lL1 : L1.length = 201 := by rw [hL1, List.length_replicate]
  dsimp only at *
  have Hez := Lib.hid ez
  have He22 := Lib.hid e22
  have He2m := Lib.hid e2m
  have He01 := Lib.hid e01
  have Ho05 := Lib.hid o05
  have Ho12 := Lib.hid o12
  have Ho01 := Lib.hid o01
  have Ho31 := Lib.hid o31
  have Ho340 := Lib.hid o340
  have Ho11 := Lib.hid o11
  have Homm := Lib.hid omm
  have Ho10 := Lib.hid o10
  have Hedv := Lib.hid edv
  have Head := Lib.hid ead
  have Hb12 := Lib.hid b12
  have Hb31 := Lib.hid b31
  have Heh := Lib.hid eh
  have Hek := Lib.hid ek
  have Hs1 := Lib.hid s1
  have Hs2 := Lib.hid s2
  have Hs3 := Lib.hid s3
  have Hs4 := Lib.hid s4
  have Hs5 := Lib.hid s5
  have Hs6 := Lib.hid s6
  have Hllp1 := Lib.hid llp1
  have Hllp2 := Lib.hid llp2
  have Hllm31 := Lib.hid llm31
  have Hon0 := Lib.hid on0
  have Hon1 := Lib.hid on1
  have Hon2 := Lib.hid on2
  have HL := Lib.hid (And.intro hL0 (And.intro hL1 (And.intro lL0 lL1)))
  clear ez e22 e2m e01 o05 o12 o01 o31 o340 o11 omm o10 edv ead b12 b31 eh ek s1 s2 s3 s4 s5 s6 llp1 llp2 llm31 on0 on1 on2 vo hL0 hL1 lL0 lL1 vm31 hm31 vm1 hm1 vp0 hp0 vp1 hp1 vp2 hp2 vp3 hp3 vp40 hp40
  obtain ⟨i0, hi, hz0, hz1, hz2⟩ := info_parts (show (Tryz.prog.info? 5).map (fun i => (i.zero, i.size, i.bytes)) = some (some (.int .u8 0), 1, 1) by kernel_rfl)
  have hmk := fun W => run_make8 (P := Tryz.prog) 66 5 i0 Tryz.underlying66 hi hz0 hz1 hz2 201 201 201 201 rfl rfl (Nat.le_refl _) (by omega) W
  have B : Hid (Below w.heap.size w w) := Below.refl _ _
  go_enter Tryz.func7, Tryz.ntmps7
  go_wp2_with fail
  refine (hT.out _).mono ?_
  rintro e w1 ⟨A1, c1, rfl, hs1, hb⟩
  replace B : Hid (Below w.heap.size w w1) := below_mono B.out hb
  clear hb
  (try dsimp only at hs1)
  (try dsimp only)
  have St : Hid (Sl w1 A1 lp2 c1) := hs1
  clear hs1
  go_upto_region 2 with fail
  replace St : Hid (Sl (w1.alloc (.cells #[.bool np2, .slice A1 lp2.length c1] 24)) A1 lp2 c1) := (St.out.alloc _)
  have Kt : Hid (Cw (w1.alloc (.cells #[.bool np2, .slice A1 lp2.length c1] 24)) w1.heap.size np2 A1 lp2.length c1) := (Cw.fresh (by simp) _ _ _ _ _)
  replace B : Hid (Below w.heap.size w (w1.alloc (.cells #[.bool np2, .slice A1 lp2.length c1] 24))) := (below_mono B.out (blw1 _ _))
  generalize w1.alloc (.cells #[.bool np2, .slice A1 lp2.length c1] 24) = wy at *
  have hzt : w1.heap.size < wy.heap.size := lt_of_cell (a := ⟨w1.heap.size, 0, none⟩) Kt.out.1
  obtain ⟨qt0, qt1⟩ := Kt.out
  go_cut [2] from 39 to 60 (fun s2 wx => s2 = .bool true ∧ Below wy.heap.size wy wx)
  case first =>
    replace B : Hid (Below wy.heap.size wy wy) := Below.refl _ _
    clear qt0 qt1
    have KtY : Hid (Cw wy.drew w1.heap.size np2 A1 lp2.length c1) := Kt.out
    have StY : Hid (Sl wy.drew A1 lp2 c1) := Sl.drew St.out
    have BY : Hid (Below wy.heap.size wy wy.drew) := Below.drew B.out
    obtain ⟨ot0, ot1⟩ := Kt.out
    go_region_with (first
      | (go_at_call 38; (with_reducible refine (hZ.out _).mono ?_); rintro e x1 ⟨rfl, hb⟩; (try dsimp only); have Ktx1 := Lib.hid (KtY.out.keep hb); have Stx1 := Lib.hid (StY.out.below hb); have Bx1 := Lib.hid (below_mono BY.out hb); obtain ⟨ot0x1, ot1x1⟩ := Ktx1.out; clear hb)
      | (go_at_call 38; (with_reducible refine (fcheck_any np2 np2 _ _ lp2 lp2 _ _ _ Stx1.out Stx1.out).mono ?_); rw [He22.out]; rintro e x2 ⟨rfl, hb⟩; (try dsimp only); have Ktx2 := Lib.hid (Ktx1.out.keep hb); have Stx2 := Lib.hid (Stx1.out.below hb); have Bx2 := Lib.hid (below_mono Bx1.out hb); obtain ⟨ot0x2, ot1x2⟩ := Ktx2.out; clear hb)
      | (go_at_call 30; (with_reducible refine (hM.out _).mono ?_); rintro e x3 ⟨A3, c3, rfl, hs3, hb⟩; (try dsimp only at hs3); (try dsimp only); have Smx3 : Hid (Sl x3 A3 lm1 c3) := hs3; have Ktx3 := Lib.hid (Ktx2.out.keep hb); have Stx3 := Lib.hid (Stx2.out.below hb); have Bx3 := Lib.hid (below_mono Bx2.out hb); obtain ⟨ot0x3, ot1x3⟩ := Ktx3.out; clear hb hs3)
      | (go_at_call 38; (with_reducible refine (fcheck_any np2 nm1 _ _ lp2 lm1 _ _ _ Stx3.out Smx3.out).mono ?_); rw [He2m.out]; rintro e x4 ⟨rfl, hb⟩; (try dsimp only); have Ktx4 := Lib.hid (Ktx3.out.keep hb); have Stx4 := Lib.hid (Stx3.out.below hb); have Smx4 := Lib.hid (Smx3.out.below hb); have Bx4 := Lib.hid (below_mono Bx3.out hb); clear hb)
      | (go_at_call 33; (with_reducible refine (hP5.out _).mono ?_); rintro e x5 ⟨A5, c5, A6, c6, rfl, hs5, hs6, hb⟩; (try dsimp only at hs5); (try dsimp only at hs6); (try dsimp only); have Sux5 : Hid (Sl x5 A5 lp0 c5) := hs5; have Svx5 : Hid (Sl x5 A6 lp1 c6) := hs6; have Ktx5 := Lib.hid (Ktx4.out.keep hb); have Stx5 := Lib.hid (Stx4.out.below hb); have Smx5 := Lib.hid (Smx4.out.below hb); have Bx5 := Lib.hid (below_mono Bx4.out hb); clear hb hs5 hs6)
      | (go_at_call 38; (with_reducible refine (fcheck_any np0 np1 _ _ lp0 lp1 _ _ _ Sux5.out Svx5.out).mono ?_); rw [He01.out]; rintro e x6 ⟨rfl, hb⟩; (try dsimp only); have Ktx6 := Lib.hid (Ktx5.out.keep hb); have Stx6 := Lib.hid (Stx5.out.below hb); have Smx6 := Lib.hid (Smx5.out.below hb); have Sux6 := Lib.hid (Sux5.out.below hb); have Svx6 := Lib.hid (Svx5.out.below hb); have Bx6 := Lib.hid (below_mono Bx5.out hb); clear hb))
    all_goals
      have Kt := Ktx6
      have St := Stx6
      have Sm := Smx6
      have Su := Sux6
      have Sv := Svx6
      have B := Bx6
      go_wp2_with fail
      go_meet
      exact ⟨rfl, B.out⟩
  case rest =>
    obtain ⟨rfl, hb⟩ := hcut
    clear qt0 qt1
    replace St : Hid (Sl wc A1 lp2 c1) := Sl.below St.out hb
    replace Kt : Hid (Cw wc w1.heap.size np2 A1 lp2.length c1) := Cw.keep Kt.out hb
    replace B : Hid (Below w.heap.size w wc) := below_mono B.out hb
    clear hb
    clear St
    clear Kt
    go_wp2_with fail
    refine (of_any 1 0 (by omega) (by omega) (by omega) (by omega) _).mono ?_
    rw [Ho10.out]
    rintro e w2 ⟨A2, c2, B2, d2, rfl, hs2, ht2, hb⟩
    replace B : Hid (Below w.heap.size w w2) := below_mono B.out hb
    clear hb
    (try dsimp only [zF])
    clear hs2 ht2
    go_wp2_with fail
    refine (part_any 1 2 (by omega) (by omega) (by omega) (by omega) _).mono ?_
    rw [Ho12.out]
    rintro e w3 ⟨A3, c3, B3, d3, rfl, hs3, ht3, hb⟩
    replace B : Hid (Below w.heap.size w w3) := below_mono (below_mono B.out (blw1 _ _)) hb
    clear hb
    (try dsimp only at hs3 ht3)
    (try dsimp only)
    have Ss1 : Hid (Sl w3 A3 lp1 c3) := hs3
    clear hs3
    have Ss2 : Hid (Sl w3 B3 lp2 d3) := ht3
    clear ht3
    go_wp2_with fail
    refine (part_any 0 1 (by omega) (by omega) (by omega) (by omega) _).mono ?_
    rw [Ho01.out]
    rintro e w4 ⟨A4, c4, B4, d4, rfl, hs4, ht4, hb⟩
    replace Ss1 : Hid (Sl w4 A3 lp1 c3) := Sl.below Ss1.out hb
    replace Ss2 : Hid (Sl w4 B3 lp2 d3) := Sl.below Ss2.out hb
    replace B : Hid (Below w.heap.size w w4) := below_mono B.out hb
    clear hb
    (try dsimp only at hs4 ht4)
    (try dsimp only)
    have St1 : Hid (Sl w4 A4 lp0 c4) := hs4
    clear hs4
    have St2 : Hid (Sl w4 B4 lp1 d4) := ht4
    clear ht4
    go_wp2_with fail
    refine (fdiv_good np1 np2 np0 np1 _ _ _ _ lp1 lp2 lp0 lp1 _ _ _ _ (.inr (congrArg Prod.snd Hedv.out)) _ Ss1.out Ss2.out St1.out St2.out).mono ?_
    rw [Hedv.out]
    rintro e w5 ⟨A5, c5, B5, d5, rfl, hs5, ht5, hb⟩
    replace Ss1 : Hid (Sl w5 A3 lp1 c3) := Sl.below Ss1.out hb
    replace Ss2 : Hid (Sl w5 B3 lp2 d3) := Sl.below Ss2.out hb
    replace St1 : Hid (Sl w5 A4 lp0 c4) := Sl.below St1.out hb
    replace St2 : Hid (Sl w5 B4 lp1 d4) := Sl.below St2.out hb
    replace B : Hid (Below w.heap.size w w5) := below_mono B.out hb
    clear hb
    (try dsimp only [zF])
    clear hs5 ht5
    clear Ss1
    clear Ss2
    clear St1
    clear St2
    go_wp2_with fail
    refine (fparse_any [46, 53] (by decide) _).mono ?_
    rw [Hs1.out]
    rintro e w6 ⟨A6, c6, B6, d6, rfl, hs6, ht6, hb⟩
    replace B : Hid (Below w.heap.size w w6) := below_mono (below_mono B.out (blw1 _ _)) hb
    clear hb
    (try dsimp only [zF])
    clear hs6 ht6
    go_wp2_with fail
    refine (fparse_any [49, 47, 48] (by decide) _).mono ?_
    rw [Hs2.out]
    rintro e w7 ⟨A7, c7, B7, d7, rfl, hs7, ht7, hb⟩
    replace B : Hid (Below w.heap.size w w7) := below_mono (below_mono B.out (blw1 _ _)) hb
    clear hb
    (try dsimp only [zF])
    clear hs7 ht7
    go_wp2_with fail
    refine (fparse_any [49, 46, 101, 53] (by decide) _).mono ?_
    rw [Hs3.out]
    rintro e w8 ⟨A8, c8, B8, d8, rfl, hs8, ht8, hb⟩
    replace B : Hid (Below w.heap.size w w8) := below_mono (below_mono B.out (blw1 _ _)) hb
    clear hb
    (try dsimp only [zF])
    clear hs8 ht8
    go_wp2_with fail
    refine (fparse_any [43, 49] (by decide) _).mono ?_
    rw [Hs4.out]
    rintro e w9 ⟨A9, c9, B9, d9, rfl, hs9, ht9, hb⟩
    replace B : Hid (Below w.heap.size w w9) := below_mono (below_mono B.out (blw1 _ _)) hb
    clear hb
    (try dsimp only [zF])
    clear hs9 ht9
    go_wp2_with fail
    refine (fparse_any [49, 101, 49, 48, 48, 48] (by decide) _).mono ?_
    rw [Hs5.out]
    rintro e w10 ⟨A10, c10, B10, d10, rfl, hs10, ht10, hb⟩
    replace B : Hid (Below w.heap.size w w10) := below_mono (below_mono B.out (blw1 _ _)) hb
    clear hb
    (try dsimp only [zF])
    clear hs10 ht10
    go_wp2_with fail
    refine (part_any 1 2 (by omega) (by omega) (by omega) (by omega) _).mono ?_
    rw [Ho12.out]
    rintro e w11 ⟨A11, c11, B11, d11, rfl, hs11, ht11, hb⟩
    replace B : Hid (Below w.heap.size w w11) := below_mono (below_mono B.out (blw1 _ _)) hb
    clear hb
    (try dsimp only at hs11 ht11)
    (try dsimp only)
    have Ss1 : Hid (Sl w11 A11 lp1 c11) := hs11
    clear hs11
    have Ss2 : Hid (Sl w11 B11 lp2 d11) := ht11
    clear ht11
    go_wp2_with fail
    refine (fdec_arg np1 np2 _ _ lp1 lp2 _ _ 51 Hb12.out (.inr (by omega)) _ Ss1.out Ss2.out).mono ?_
    rintro e w12 ⟨rfl, hb⟩
    replace Ss1 : Hid (Sl w12 A11 lp1 c11) := Sl.below Ss1.out hb
    replace Ss2 : Hid (Sl w12 B11 lp2 d11) := Sl.below Ss2.out hb
    replace B : Hid (Below w.heap.size w w12) := below_mono B.out hb
    clear hb
    (try dsimp only)
    clear Ss1
    clear Ss2
    go_wp2_with fail
    refine (part_any 1 2 (by omega) (by omega) (by omega) (by omega) _).mono ?_
    rw [Ho12.out]
    rintro e w13 ⟨A13, c13, B13, d13, rfl, hs13, ht13, hb⟩
    replace B : Hid (Below w.heap.size w w13) := below_mono B.out hb
    clear hb
    (try dsimp only at hs13 ht13)
    (try dsimp only)
    have Ss1 : Hid (Sl w13 A13 lp1 c13) := hs13
    clear hs13
    have Ss2 : Hid (Sl w13 B13 lp2 d13) := ht13
    clear ht13
    go_wp2_with fail
    refine (fdec_ok np1 np2 _ _ lp1 lp2 _ _ 0 Hb12.out (by omega) (by omega) Hllp1.out Hllp2.out _ Ss1.out Ss2.out).mono ?_
    rw [Heh.out]
    rintro e w14 ⟨rfl, hb⟩
    replace Ss1 : Hid (Sl w14 A13 lp1 c13) := Sl.below Ss1.out hb
    replace Ss2 : Hid (Sl w14 B13 lp2 d13) := Sl.below Ss2.out hb
    replace B : Hid (Below w.heap.size w w14) := below_mono B.out hb
    clear hb
    (try dsimp only)
    clear Ss1
    clear Ss2
    go_wp2_with fail
    refine (part_any (-31) 2 (by omega) (by omega) (by omega) (by omega) _).mono ?_
    rw [Ho31.out]
    rintro e w15 ⟨A15, c15, B15, d15, rfl, hs15, ht15, hb⟩
    replace B : Hid (Below w.heap.size w w15) := below_mono B.out hb
    clear hb
    (try dsimp only at hs15 ht15)
    (try dsimp only)
    have Ss1 : Hid (Sl w15 A15 lm31 c15) := hs15
    clear hs15
    have Ss2 : Hid (Sl w15 B15 lp2 d15) := ht15
    clear ht15
    go_wp2_with fail
    refine (fdec_ok nm31 np2 _ _ lm31 lp2 _ _ 0 Hb31.out (by omega) (by omega) Hllm31.out Hllp2.out _ Ss1.out Ss2.out).mono ?_
    rw [Hek.out]
    rintro e w16 ⟨rfl, hb⟩
    replace Ss1 : Hid (Sl w16 A15 lm31 c15) := Sl.below Ss1.out hb
    replace Ss2 : Hid (Sl w16 B15 lp2 d15) := Sl.below Ss2.out hb
    replace B : Hid (Below w.heap.size w w16) := below_mono B.out hb
    clear hb
    (try dsimp only)
    clear Ss1
    clear Ss2
    go_wp2_with fail
    refine (fparse_any [48, 48, 55, 46, 53, 48, 101, 45, 50] (by decide) _).mono ?_
    rw [Hs6.out]
    rintro e w17 ⟨A17, c17, B17, d17, rfl, hs17, ht17, hb⟩
    replace B : Hid (Below w.heap.size w w17) := below_mono B.out hb
    clear hb
    (try dsimp only at hs17 ht17)
    (try dsimp only)
    have Sm1 : Hid (Sl w17 A17 lp3 c17) := hs17
    clear hs17
    have Sm2 : Hid (Sl w17 B17 lp40 d17) := ht17
    clear ht17
    go_wp2_with fail
    refine (of_any (-9223372036854775808) (-9223372036854775808) (by omega) (by omega) (by omega) (by omega) _).mono ?_
    rw [Homm.out]
    rintro e w18 ⟨A18, c18, B18, d18, rfl, hs18, ht18, hb⟩
    replace Sm1 : Hid (Sl w18 A17 lp3 c17) := Sl.below (Sm1.out.alloc _) hb
    replace Sm2 : Hid (Sl w18 B17 lp40 d17) := Sl.below (Sm2.out.alloc _) hb
    have Km : Hid (Cf w18 w17.heap.size np3 A17 lp3.length c17 np40 B17 lp40.length d17) := Cf.keep (Cf.fresh (by simp) _ _ _ _ _ _ _ _ _) hb
    replace B : Hid (Below w.heap.size w w18) := below_mono (below_mono B.out (blw1 _ _)) hb
    clear hb
    (try dsimp only at hs18 ht18)
    (try dsimp only)
    have Sn1 : Hid (Sl w18 A18 lp1 c18) := hs18
    clear hs18
    have Sn2 : Hid (Sl w18 B18 lp1 d18) := ht18
    clear ht18
    have hzm : w17.heap.size < w18.heap.size := lt_of_cell (a := ⟨w17.heap.size, 0, none⟩) Km.out.1
    have hkmn := hzm
    go_wp2_with fail
    refine (hSm.out _).mono ?_
    rintro e w19 ⟨A19, c19, B19, d19, rfl, hs19, ht19, hb⟩
    replace Sm1 : Hid (Sl w19 A17 lp3 c17) := Sl.below (Sm1.out.alloc _) hb
    replace Sm2 : Hid (Sl w19 B17 lp40 d17) := Sl.below (Sm2.out.alloc _) hb
    replace Sn1 : Hid (Sl w19 A18 lp1 c18) := Sl.below (Sn1.out.alloc _) hb
    replace Sn2 : Hid (Sl w19 B18 lp1 d18) := Sl.below (Sn2.out.alloc _) hb
    replace Km : Hid (Cf w19 w17.heap.size np3 A17 lp3.length c17 np40 B17 lp40.length d17) := Cf.keep (Cf.keep Km.out (blw1 _ _)) hb
    have Kn : Hid (Cf w19 w18.heap.size np1 A18 lp1.length c18 np1 B18 lp1.length d18) := Cf.keep (Cf.fresh (by simp) _ _ _ _ _ _ _ _ _) hb
    replace B : Hid (Below w.heap.size w w19) := below_mono (below_mono B.out (blw1 _ _)) hb
    clear hb
    (try dsimp only at hs19 ht19)
    (try dsimp only)
    have Sp1 : Hid (Sl w19 A19 lp0 c19) := hs19
    clear hs19
    have Sp2 : Hid (Sl w19 B19 lp1 d19) := ht19
    clear ht19
    replace hzm : w17.heap.size < w19.heap.size := lt_of_cell (a := ⟨w17.heap.size, 0, none⟩) Km.out.1
    have hzn : w18.heap.size < w19.heap.size := lt_of_cell (a := ⟨w18.heap.size, 0, none⟩) Kn.out.1
    have hkmp := hzm
    have hknp := hzn
    go_wp2_with fail
    refine (part_any 1 2 (by omega) (by omega) (by omega) (by omega) _).mono ?_
    rw [Ho12.out]
    rintro e w20 ⟨A20, c20, B20, d20, rfl, hs20, ht20, hb⟩
    replace Sm1 : Hid (Sl w20 A17 lp3 c17) := Sl.below (Sm1.out.alloc _) hb
    replace Sm2 : Hid (Sl w20 B17 lp40 d17) := Sl.below (Sm2.out.alloc _) hb
    replace Sn1 : Hid (Sl w20 A18 lp1 c18) := Sl.below (Sn1.out.alloc _) hb
    replace Sn2 : Hid (Sl w20 B18 lp1 d18) := Sl.below (Sn2.out.alloc _) hb
    replace Sp1 : Hid (Sl w20 A19 lp0 c19) := Sl.below (Sp1.out.alloc _) hb
    replace Sp2 : Hid (Sl w20 B19 lp1 d19) := Sl.below (Sp2.out.alloc _) hb
    replace Km : Hid (Cf w20 w17.heap.size np3 A17 lp3.length c17 np40 B17 lp40.length d17) := Cf.keep (Cf.keep Km.out (blw1 _ _)) hb
    replace Kn : Hid (Cf w20 w18.heap.size np1 A18 lp1.length c18 np1 B18 lp1.length d18) := Cf.keep (Cf.keep Kn.out (blw1 _ _)) hb
    have Kp : Hid (Cf w20 w19.heap.size np0 A19 lp0.length c19 np1 B19 lp1.length d19) := Cf.keep (Cf.fresh (by simp) _ _ _ _ _ _ _ _ _) hb
    replace B : Hid (Below w.heap.size w w20) := below_mono (below_mono B.out (blw1 _ _)) hb
    clear hb
    (try dsimp only at hs20 ht20)
    (try dsimp only)
    have Ss1 : Hid (Sl w20 A20 lp1 c20) := hs20
    clear hs20
    have Ss2 : Hid (Sl w20 B20 lp2 d20) := ht20
    clear ht20
    replace hzm : w17.heap.size < w20.heap.size := lt_of_cell (a := ⟨w17.heap.size, 0, none⟩) Km.out.1
    replace hzn : w18.heap.size < w20.heap.size := lt_of_cell (a := ⟨w18.heap.size, 0, none⟩) Kn.out.1
    have hzp : w19.heap.size < w20.heap.size := lt_of_cell (a := ⟨w19.heap.size, 0, none⟩) Kp.out.1
    go_wp2_with fail
    refine (fadd_any false false np1 np2 none none _ _ [] [] lp1 lp2 0 0 _ _ _ (Sl.nil _ _ _) (Sl.nil _ _ _) Ss1.out Ss2.out).mono ?_
    rw [Head.out]
    rintro e w21 ⟨A21, c21, B21, d21, rfl, hs21, ht21, hb⟩
    replace Sm1 : Hid (Sl w21 A17 lp3 c17) := Sl.below Sm1.out hb
    replace Sm2 : Hid (Sl w21 B17 lp40 d17) := Sl.below Sm2.out hb
    replace Sn1 : Hid (Sl w21 A18 lp1 c18) := Sl.below Sn1.out hb
    replace Sn2 : Hid (Sl w21 B18 lp1 d18) := Sl.below Sn2.out hb
    replace Sp1 : Hid (Sl w21 A19 lp0 c19) := Sl.below Sp1.out hb
    replace Sp2 : Hid (Sl w21 B19 lp1 d19) := Sl.below Sp2.out hb
    replace Ss1 : Hid (Sl w21 A20 lp1 c20) := Sl.below Ss1.out hb
    replace Ss2 : Hid (Sl w21 B20 lp2 d20) := Sl.below Ss2.out hb
    replace Km : Hid (Cf w21 w17.heap.size np3 A17 lp3.length c17 np40 B17 lp40.length d17) := Cf.keep Km.out hb
    replace Kn : Hid (Cf w21 w18.heap.size np1 A18 lp1.length c18 np1 B18 lp1.length d18) := Cf.keep Kn.out hb
    replace Kp : Hid (Cf w21 w19.heap.size np0 A19 lp0.length c19 np1 B19 lp1.length d19) := Cf.keep Kp.out hb
    replace B : Hid (Below w.heap.size w w21) := below_mono B.out hb
    clear hb
    (try dsimp only [zF])
    clear hs21 ht21
    replace hzm : w17.heap.size < w21.heap.size := lt_of_cell (a := ⟨w17.heap.size, 0, none⟩) Km.out.1
    replace hzn : w18.heap.size < w21.heap.size := lt_of_cell (a := ⟨w18.heap.size, 0, none⟩) Kn.out.1
    replace hzp : w19.heap.size < w21.heap.size := lt_of_cell (a := ⟨w19.heap.size, 0, none⟩) Kp.out.1
    have hj21 := True.intro
    have hkmj := hzm
    have hknj := hzn
    have hkpj := hzp
    clear Ss1
    clear Ss2
    go_upto_region 17 with fail
    replace Sm1 : Hid (Sl (w21.alloc (.cells #[.bool false, .slice A21 0 c21, .bool false, .slice B21 0 d21] 26)) A17 lp3 c17) := (Sm1.out.alloc _)
    replace Sm2 : Hid (Sl (w21.alloc (.cells #[.bool false, .slice A21 0 c21, .bool false, .slice B21 0 d21] 26)) B17 lp40 d17) := (Sm2.out.alloc _)
    replace Sn1 : Hid (Sl (w21.alloc (.cells #[.bool false, .slice A21 0 c21, .bool false, .slice B21 0 d21] 26)) A18 lp1 c18) := (Sn1.out.alloc _)
    replace Sn2 : Hid (Sl (w21.alloc (.cells #[.bool false, .slice A21 0 c21, .bool false, .slice B21 0 d21] 26)) B18 lp1 d18) := (Sn2.out.alloc _)
    replace Sp1 : Hid (Sl (w21.alloc (.cells #[.bool false, .slice A21 0 c21, .bool false, .slice B21 0 d21] 26)) A19 lp0 c19) := (Sp1.out.alloc _)
    replace Sp2 : Hid (Sl (w21.alloc (.cells #[.bool false, .slice A21 0 c21, .bool false, .slice B21 0 d21] 26)) B19 lp1 d19) := (Sp2.out.alloc _)
    replace Km : Hid (Cf (w21.alloc (.cells #[.bool false, .slice A21 0 c21, .bool false, .slice B21 0 d21] 26)) w17.heap.size np3 A17 lp3.length c17 np40 B17 lp40.length d17) := (Cf.keep Km.out (blw1 _ _))
    replace Kn : Hid (Cf (w21.alloc (.cells #[.bool false, .slice A21 0 c21, .bool false, .slice B21 0 d21] 26)) w18.heap.size np1 A18 lp1.length c18 np1 B18 lp1.length d18) := (Cf.keep Kn.out (blw1 _ _))
    replace Kp : Hid (Cf (w21.alloc (.cells #[.bool false, .slice A21 0 c21, .bool false, .slice B21 0 d21] 26)) w19.heap.size np0 A19 lp0.length c19 np1 B19 lp1.length d19) := (Cf.keep Kp.out (blw1 _ _))
    have Kj : Hid (Cf (w21.alloc (.cells #[.bool false, .slice A21 0 c21, .bool false, .slice B21 0 d21] 26)) w21.heap.size false A21 0 c21 false B21 0 d21) := (Cf.fresh (by simp) _ _ _ _ _ _ _ _ _)
    replace B : Hid (Below w.heap.size w (w21.alloc (.cells #[.bool false, .slice A21 0 c21, .bool false, .slice B21 0 d21] 26))) := (below_mono B.out (blw1 _ _))
    generalize w21.alloc (.cells #[.bool false, .slice A21 0 c21, .bool false, .slice B21 0 d21] 26) = wq at *
    clear Kj
    have hzm : w17.heap.size < wq.heap.size := lt_of_cell (a := ⟨w17.heap.size, 0, none⟩) Km.out.1
    have hzn : w18.heap.size < wq.heap.size := lt_of_cell (a := ⟨w18.heap.size, 0, none⟩) Kn.out.1
    have hzp : w19.heap.size < wq.heap.size := lt_of_cell (a := ⟨w19.heap.size, 0, none⟩) Kp.out.1
    go_wp2
    go_loopw [32] (fun v wr => ∃ k : Nat, k ≤ 201 ∧ v = .int .i64 k ∧ (∃ cs, BlkV wr wq.heap.size 5 cs ∧ cs.size = 201 ∧ ∀ i, i < k → cs[i]? = some (.int .u8 49)) ∧ Below wq.heap.size wq wr) (fun v _ => 201 - (intOf v).toNat)
    case atStart => exact ⟨0, Nat.zero_le _, rfl, ⟨zrow8 201, BlkV.new _ rfl _ _, zrow8_size _, fun i hi => absurd hi (Nat.not_lt_zero _)⟩, blw1 _ _⟩
    case round =>
      obtain ⟨k, hk, rfl, ⟨cs, hblk, hcs, hall⟩, hbw⟩ := hrel
      have BLK := Lib.hid hblk
      have HBW := Lib.hid hbw
      have ALL := Lib.hid hall
      have HCS := Lib.hid hcs
      clear hall hbw hblk hcs
      by_cases hlt : k < 201
      · have hck : wr.cell? ⟨wq.heap.size, k, none⟩ = some (cs[k]'(by rw [HCS.out]; exact hlt)) := by rw [BLK.out.cell, Array.getElem?_eq_getElem]
        have hfk := BLK.out.frozen k
        go_wp2
        go_roundw
        case rel => exact ⟨k + 1, by omega, by go_num, ⟨_, BLK.out.set_ k _, by rw [Array.size_setIfInBounds]; exact HCS.out, fun i hi => by
          rw [Array.getElem?_setIfInBounds]
          by_cases h : k = i
          · rw [if_pos h, if_pos (by rw [HCS.out]; omega)]
          · rw [if_neg h]; exact ALL.out i (by omega)⟩, HBW.out.setCell (p := ⟨wq.heap.size, k, none⟩) (by simp) _⟩
        case measure => simp [intOf]; omega
      · obtain rfl : k = 201 := by omega
        have hb := HBW.out
        have CELLS : Hid (∀ W, BlkV W wq.heap.size 5 cs → ∀ i, i < 201 → W.cell? ⟨wq.heap.size, i, none⟩ = some (.int .u8 49)) := fun W h i hi => (h.cell i).trans (ALL.out i hi)
        have CV1 : Hid (∀ W, BlkV W wq.heap.size 5 cs → (convert 66 9 (.slice (some ⟨wq.heap.size, 0, none⟩) 201 201)).run Tryz.prog W = .ok (.string ⟨L1.toArray⟩) W) := fun W hW => by
          have h := run_convert_bytes_back (P := Tryz.prog) W 66 9 5 ⟨wq.heap.size, 0, none⟩ 201 L1 Tryz.underlying66 Tryz.underlying5 Tryz.underlying9 (fun j hj => by
            have h5 : ∀ c ∈ L1, c = 49 := by rw [HL.out.2.1]; intro c hc; exact (List.mem_replicate.1 hc).2
            have h2 : L1[j] = 49 := h5 _ (List.getElem_mem hj)
            rw [h2]
            have h3 := CELLS.out W hW j (by have := HL.out.2.2; omega)
            unfold Addr.add
            split
            · next h0 => subst h0; exact h3
            · simpa using h3)
          rwa [HL.out.2.2.2] at h
        have CV0 : Hid (∀ W, BlkV W wq.heap.size 5 cs → (convert 66 9 (.slice (some ⟨wq.heap.size, 0, none⟩) 200 201)).run Tryz.prog W = .ok (.string ⟨L0.toArray⟩) W) := fun W hW => by
          have h := run_convert_bytes_back (P := Tryz.prog) W 66 9 5 ⟨wq.heap.size, 0, none⟩ 201 L0 Tryz.underlying66 Tryz.underlying5 Tryz.underlying9 (fun j hj => by
            have h5 : ∀ c ∈ L0, c = 49 := by rw [HL.out.1]; intro c hc; exact (List.mem_replicate.1 hc).2
            have h2 : L0[j] = 49 := h5 _ (List.getElem_mem hj)
            rw [h2]
            have h3 := CELLS.out W hW j (by have := HL.out.2.2; omega)
            unfold Addr.add
            split
            · next h0 => subst h0; exact h3
            · simpa using h3)
          rwa [HL.out.2.2.1] at h
        clear CELLS ALL HCS hk hlt HBW
        replace Sm1 : Hid (Sl wr A17 lp3 c17) := Sl.below Sm1.out hb
        replace Sm2 : Hid (Sl wr B17 lp40 d17) := Sl.below Sm2.out hb
        replace Sn1 : Hid (Sl wr A18 lp1 c18) := Sl.below Sn1.out hb
        replace Sn2 : Hid (Sl wr B18 lp1 d18) := Sl.below Sn2.out hb
        replace Sp1 : Hid (Sl wr A19 lp0 c19) := Sl.below Sp1.out hb
        replace Sp2 : Hid (Sl wr B19 lp1 d19) := Sl.below Sp2.out hb
        replace Km : Hid (Cf wr w17.heap.size np3 A17 lp3.length c17 np40 B17 lp40.length d17) := Cf.keep Km.out hb
        replace Kn : Hid (Cf wr w18.heap.size np1 A18 lp1.length c18 np1 B18 lp1.length d18) := Cf.keep Kn.out hb
        replace Kp : Hid (Cf wr w19.heap.size np0 A19 lp0.length c19 np1 B19 lp1.length d19) := Cf.keep Kp.out hb
        replace B : Hid (Below w.heap.size w wr) := below_mono B.out hb
        clear hb
        replace hzm : w17.heap.size < wr.heap.size := lt_of_cell (a := ⟨w17.heap.size, 0, none⟩) Km.out.1
        replace hzn : w18.heap.size < wr.heap.size := lt_of_cell (a := ⟨w18.heap.size, 0, none⟩) Kn.out.1
        replace hzp : w19.heap.size < wr.heap.size := lt_of_cell (a := ⟨w19.heap.size, 0, none⟩) Kp.out.1
        have hcv := CV1.out wr BLK.out
        go_wp2_with fail
        refine (fparse_any L1 (by have := HL.out.2.2; omega) _).mono ?_
        rw [Hon2.out]
        rintro e w22 ⟨A22, c22, B22, d22, rfl, hs22, ht22, hb⟩
        replace Sm1 : Hid (Sl w22 A17 lp3 c17) := Sl.below Sm1.out hb
        replace Sm2 : Hid (Sl w22 B17 lp40 d17) := Sl.below Sm2.out hb
        replace Sn1 : Hid (Sl w22 A18 lp1 c18) := Sl.below Sn1.out hb
        replace Sn2 : Hid (Sl w22 B18 lp1 d18) := Sl.below Sn2.out hb
        replace Sp1 : Hid (Sl w22 A19 lp0 c19) := Sl.below Sp1.out hb
        replace Sp2 : Hid (Sl w22 B19 lp1 d19) := Sl.below Sp2.out hb
        replace Km : Hid (Cf w22 w17.heap.size np3 A17 lp3.length c17 np40 B17 lp40.length d17) := Cf.keep Km.out hb
        replace Kn : Hid (Cf w22 w18.heap.size np1 A18 lp1.length c18 np1 B18 lp1.length d18) := Cf.keep Kn.out hb
        replace Kp : Hid (Cf w22 w19.heap.size np0 A19 lp0.length c19 np1 B19 lp1.length d19) := Cf.keep Kp.out hb
        replace B : Hid (Below w.heap.size w w22) := below_mono B.out hb
        replace BLK : Hid (BlkV w22 wq.heap.size 5 cs) := BLK.out.keep hb
        clear hb
        (try dsimp only [zF])
        clear hs22 ht22 hcv
        replace hzm : w17.heap.size < w22.heap.size := lt_of_cell (a := ⟨w17.heap.size, 0, none⟩) Km.out.1
        replace hzn : w18.heap.size < w22.heap.size := lt_of_cell (a := ⟨w18.heap.size, 0, none⟩) Kn.out.1
        replace hzp : w19.heap.size < w22.heap.size := lt_of_cell (a := ⟨w19.heap.size, 0, none⟩) Kp.out.1
        go_upto_region 23 with fail
        replace Sm1 : Hid (Sl (w22.alloc (.cells #[.bool false, .slice A22 0 c22, .bool false, .slice B22 0 d22] 26)) A17 lp3 c17) := (Sm1.out.alloc _)
        replace Sm2 : Hid (Sl (w22.alloc (.cells #[.bool false, .slice A22 0 c22, .bool false, .slice B22 0 d22] 26)) B17 lp40 d17) := (Sm2.out.alloc _)
        replace Sn1 : Hid (Sl (w22.alloc (.cells #[.bool false, .slice A22 0 c22, .bool false, .slice B22 0 d22] 26)) A18 lp1 c18) := (Sn1.out.alloc _)
        replace Sn2 : Hid (Sl (w22.alloc (.cells #[.bool false, .slice A22 0 c22, .bool false, .slice B22 0 d22] 26)) B18 lp1 d18) := (Sn2.out.alloc _)
        replace Sp1 : Hid (Sl (w22.alloc (.cells #[.bool false, .slice A22 0 c22, .bool false, .slice B22 0 d22] 26)) A19 lp0 c19) := (Sp1.out.alloc _)
        replace Sp2 : Hid (Sl (w22.alloc (.cells #[.bool false, .slice A22 0 c22, .bool false, .slice B22 0 d22] 26)) B19 lp1 d19) := (Sp2.out.alloc _)
        replace Km : Hid (Cf (w22.alloc (.cells #[.bool false, .slice A22 0 c22, .bool false, .slice B22 0 d22] 26)) w17.heap.size np3 A17 lp3.length c17 np40 B17 lp40.length d17) := (Cf.keep Km.out (blw1 _ _))
        replace Kn : Hid (Cf (w22.alloc (.cells #[.bool false, .slice A22 0 c22, .bool false, .slice B22 0 d22] 26)) w18.heap.size np1 A18 lp1.length c18 np1 B18 lp1.length d18) := (Cf.keep Kn.out (blw1 _ _))
        replace Kp : Hid (Cf (w22.alloc (.cells #[.bool false, .slice A22 0 c22, .bool false, .slice B22 0 d22] 26)) w19.heap.size np0 A19 lp0.length c19 np1 B19 lp1.length d19) := (Cf.keep Kp.out (blw1 _ _))
        have Kj : Hid (Cf (w22.alloc (.cells #[.bool false, .slice A22 0 c22, .bool false, .slice B22 0 d22] 26)) w22.heap.size false A22 0 c22 false B22 0 d22) := (Cf.fresh (by simp) _ _ _ _ _ _ _ _ _)
        replace B : Hid (Below w.heap.size w (w22.alloc (.cells #[.bool false, .slice A22 0 c22, .bool false, .slice B22 0 d22] 26))) := (below_mono B.out (blw1 _ _))
        replace BLK : Hid (BlkV (w22.alloc (.cells #[.bool false, .slice A22 0 c22, .bool false, .slice B22 0 d22] 26)) wq.heap.size 5 cs) := BLK.out.alloc _
        generalize w22.alloc (.cells #[.bool false, .slice A22 0 c22, .bool false, .slice B22 0 d22] 26) = wn at *
        clear Kj
        have hzm : w17.heap.size < wn.heap.size := lt_of_cell (a := ⟨w17.heap.size, 0, none⟩) Km.out.1
        have hzn : w18.heap.size < wn.heap.size := lt_of_cell (a := ⟨w18.heap.size, 0, none⟩) Kn.out.1
        have hzp : w19.heap.size < wn.heap.size := lt_of_cell (a := ⟨w19.heap.size, 0, none⟩) Kp.out.1
        have hcv := CV0.out wn BLK.out
        go_wp2_with fail
        refine (fparse_any L0 (by have := HL.out.2.2; omega) _).mono ?_
        rw [Hon0.out]
        rintro e w23 ⟨A23, c23, B23, d23, rfl, hs23, ht23, hb⟩
        replace Sm1 : Hid (Sl w23 A17 lp3 c17) := Sl.below Sm1.out hb
        replace Sm2 : Hid (Sl w23 B17 lp40 d17) := Sl.below Sm2.out hb
        replace Sn1 : Hid (Sl w23 A18 lp1 c18) := Sl.below Sn1.out hb
        replace Sn2 : Hid (Sl w23 B18 lp1 d18) := Sl.below Sn2.out hb
        replace Sp1 : Hid (Sl w23 A19 lp0 c19) := Sl.below Sp1.out hb
        replace Sp2 : Hid (Sl w23 B19 lp1 d19) := Sl.below Sp2.out hb
        replace Km : Hid (Cf w23 w17.heap.size np3 A17 lp3.length c17 np40 B17 lp40.length d17) := Cf.keep Km.out hb
        replace Kn : Hid (Cf w23 w18.heap.size np1 A18 lp1.length c18 np1 B18 lp1.length d18) := Cf.keep Kn.out hb
        replace Kp : Hid (Cf w23 w19.heap.size np0 A19 lp0.length c19 np1 B19 lp1.length d19) := Cf.keep Kp.out hb
        replace B : Hid (Below w.heap.size w w23) := below_mono B.out hb
        clear hb
        (try dsimp only at hs23 ht23)
        (try dsimp only)
        clear hcv BLK CV0 CV1
        have Sv1 : Hid (Sl w23 A23 lu c23) := hs23
        clear hs23
        have Sv2 : Hid (Sl w23 B23 lv d23) := ht23
        clear ht23
        replace hzm : w17.heap.size < w23.heap.size := lt_of_cell (a := ⟨w17.heap.size, 0, none⟩) Km.out.1
        replace hzn : w18.heap.size < w23.heap.size := lt_of_cell (a := ⟨w18.heap.size, 0, none⟩) Kn.out.1
        replace hzp : w19.heap.size < w23.heap.size := lt_of_cell (a := ⟨w19.heap.size, 0, none⟩) Kp.out.1
        have hkmv := hzm
        have hknv := hzn
        have hkpv := hzp
        go_wp2_with fail
        refine (alive_true3 _).mono ?_
        rintro e w24 ⟨rfl, hb⟩
        replace Sm1 : Hid (Sl w24 A17 lp3 c17) := Sl.below (Sm1.out.alloc _) hb
        replace Sm2 : Hid (Sl w24 B17 lp40 d17) := Sl.below (Sm2.out.alloc _) hb
        replace Sn1 : Hid (Sl w24 A18 lp1 c18) := Sl.below (Sn1.out.alloc _) hb
        replace Sn2 : Hid (Sl w24 B18 lp1 d18) := Sl.below (Sn2.out.alloc _) hb
        replace Sp1 : Hid (Sl w24 A19 lp0 c19) := Sl.below (Sp1.out.alloc _) hb
        replace Sp2 : Hid (Sl w24 B19 lp1 d19) := Sl.below (Sp2.out.alloc _) hb
        replace Sv1 : Hid (Sl w24 A23 lu c23) := Sl.below (Sv1.out.alloc _) hb
        replace Sv2 : Hid (Sl w24 B23 lv d23) := Sl.below (Sv2.out.alloc _) hb
        replace Km : Hid (Cf w24 w17.heap.size np3 A17 lp3.length c17 np40 B17 lp40.length d17) := Cf.keep (Cf.keep Km.out (blw1 _ _)) hb
        replace Kn : Hid (Cf w24 w18.heap.size np1 A18 lp1.length c18 np1 B18 lp1.length d18) := Cf.keep (Cf.keep Kn.out (blw1 _ _)) hb
        replace Kp : Hid (Cf w24 w19.heap.size np0 A19 lp0.length c19 np1 B19 lp1.length d19) := Cf.keep (Cf.keep Kp.out (blw1 _ _)) hb
        have Kv : Hid (Cf w24 w23.heap.size nu A23 lu.length c23 nv B23 lv.length d23) := Cf.keep (Cf.fresh (by simp) _ _ _ _ _ _ _ _ _) hb
        replace B : Hid (Below w.heap.size w w24) := below_mono (below_mono B.out (blw1 _ _)) hb
        clear hb
        replace hzm : w17.heap.size < w24.heap.size := lt_of_cell (a := ⟨w17.heap.size, 0, none⟩) Km.out.1
        replace hzn : w18.heap.size < w24.heap.size := lt_of_cell (a := ⟨w18.heap.size, 0, none⟩) Kn.out.1
        replace hzp : w19.heap.size < w24.heap.size := lt_of_cell (a := ⟨w19.heap.size, 0, none⟩) Kp.out.1
        have hzv : w23.heap.size < w24.heap.size := lt_of_cell (a := ⟨w23.heap.size, 0, none⟩) Kv.out.1
        obtain ⟨qm0, qm1, qm2, qm3⟩ := Km.out
        go_wp2_with fail
        refine (lsame_true np3 np40 _ _ lp3 lp40 _ _ 3 40 (by omega) (by omega) (by omega) (by omega) Ho340.out _ Sm1.out Sm2.out).mono ?_
        rintro e w25 ⟨rfl, hb⟩
        clear qm0 qm1 qm2 qm3
        replace Sm1 : Hid (Sl w25 A17 lp3 c17) := Sl.below Sm1.out hb
        replace Sm2 : Hid (Sl w25 B17 lp40 d17) := Sl.below Sm2.out hb
        replace Sn1 : Hid (Sl w25 A18 lp1 c18) := Sl.below Sn1.out hb
        replace Sn2 : Hid (Sl w25 B18 lp1 d18) := Sl.below Sn2.out hb
        replace Sp1 : Hid (Sl w25 A19 lp0 c19) := Sl.below Sp1.out hb
        replace Sp2 : Hid (Sl w25 B19 lp1 d19) := Sl.below Sp2.out hb
        replace Sv1 : Hid (Sl w25 A23 lu c23) := Sl.below Sv1.out hb
        replace Sv2 : Hid (Sl w25 B23 lv d23) := Sl.below Sv2.out hb
        replace Km : Hid (Cf w25 w17.heap.size np3 A17 lp3.length c17 np40 B17 lp40.length d17) := Cf.keep Km.out hb
        replace Kn : Hid (Cf w25 w18.heap.size np1 A18 lp1.length c18 np1 B18 lp1.length d18) := Cf.keep Kn.out hb
        replace Kp : Hid (Cf w25 w19.heap.size np0 A19 lp0.length c19 np1 B19 lp1.length d19) := Cf.keep Kp.out hb
        replace Kv : Hid (Cf w25 w23.heap.size nu A23 lu.length c23 nv B23 lv.length d23) := Cf.keep Kv.out hb
        replace B : Hid (Below w.heap.size w w25) := below_mono B.out hb
        clear hb
        clear Sm1
        clear Sm2
        clear Km
        replace hzn : w18.heap.size < w25.heap.size := lt_of_cell (a := ⟨w18.heap.size, 0, none⟩) Kn.out.1
        replace hzp : w19.heap.size < w25.heap.size := lt_of_cell (a := ⟨w19.heap.size, 0, none⟩) Kp.out.1
        replace hzv : w23.heap.size < w25.heap.size := lt_of_cell (a := ⟨w23.heap.size, 0, none⟩) Kv.out.1
        obtain ⟨qn0, qn1, qn2, qn3⟩ := Kn.out
        go_wp2_with fail
        refine (lsame_true np1 np1 _ _ lp1 lp1 _ _ 1 1 (by omega) (by omega) (by omega) (by omega) Ho11.out _ Sn1.out Sn2.out).mono ?_
        rintro e w26 ⟨rfl, hb⟩
        clear qn0 qn1 qn2 qn3
        replace Sn1 : Hid (Sl w26 A18 lp1 c18) := Sl.below Sn1.out hb
        replace Sn2 : Hid (Sl w26 B18 lp1 d18) := Sl.below Sn2.out hb
        replace Sp1 : Hid (Sl w26 A19 lp0 c19) := Sl.below Sp1.out hb
        replace Sp2 : Hid (Sl w26 B19 lp1 d19) := Sl.below Sp2.out hb
        replace Sv1 : Hid (Sl w26 A23 lu c23) := Sl.below Sv1.out hb
        replace Sv2 : Hid (Sl w26 B23 lv d23) := Sl.below Sv2.out hb
        replace Kn : Hid (Cf w26 w18.heap.size np1 A18 lp1.length c18 np1 B18 lp1.length d18) := Cf.keep Kn.out hb
        replace Kp : Hid (Cf w26 w19.heap.size np0 A19 lp0.length c19 np1 B19 lp1.length d19) := Cf.keep Kp.out hb
        replace Kv : Hid (Cf w26 w23.heap.size nu A23 lu.length c23 nv B23 lv.length d23) := Cf.keep Kv.out hb
        replace B : Hid (Below w.heap.size w w26) := below_mono B.out hb
        clear hb
        clear Sn1
        clear Sn2
        clear Kn
        replace hzp : w19.heap.size < w26.heap.size := lt_of_cell (a := ⟨w19.heap.size, 0, none⟩) Kp.out.1
        replace hzv : w23.heap.size < w26.heap.size := lt_of_cell (a := ⟨w23.heap.size, 0, none⟩) Kv.out.1
        obtain ⟨qp0, qp1, qp2, qp3⟩ := Kp.out
        go_wp2_with fail
        refine (lsame_true np0 np1 _ _ lp0 lp1 _ _ 0 1 (by omega) (by omega) (by omega) (by omega) Ho01.out _ Sp1.out Sp2.out).mono ?_
        rintro e w27 ⟨rfl, hb⟩
        clear qp0 qp1 qp2 qp3
        replace Sp1 : Hid (Sl w27 A19 lp0 c19) := Sl.below Sp1.out hb
        replace Sp2 : Hid (Sl w27 B19 lp1 d19) := Sl.below Sp2.out hb
        replace Sv1 : Hid (Sl w27 A23 lu c23) := Sl.below Sv1.out hb
        replace Sv2 : Hid (Sl w27 B23 lv d23) := Sl.below Sv2.out hb
        replace Kp : Hid (Cf w27 w19.heap.size np0 A19 lp0.length c19 np1 B19 lp1.length d19) := Cf.keep Kp.out hb
        replace Kv : Hid (Cf w27 w23.heap.size nu A23 lu.length c23 nv B23 lv.length d23) := Cf.keep Kv.out hb
        replace B : Hid (Below w.heap.size w w27) := below_mono B.out hb
        clear hb
        clear Sp1
        clear Sp2
        clear Kp
        replace hzv : w23.heap.size < w27.heap.size := lt_of_cell (a := ⟨w23.heap.size, 0, none⟩) Kv.out.1
        obtain ⟨qv0, qv1, qv2, qv3⟩ := Kv.out
        go_wp2_with fail
        refine (rfcheck_any nu nv _ _ lu lv _ _ _ Sv1.out Sv2.out).mono ?_
        rw [Hon1.out]
        rintro e w28 ⟨rfl, hb⟩
        clear qv0 qv1 qv2 qv3
        replace Sv1 : Hid (Sl w28 A23 lu c23) := Sl.below Sv1.out hb
        replace Sv2 : Hid (Sl w28 B23 lv d23) := Sl.below Sv2.out hb
        replace Kv : Hid (Cf w28 w23.heap.size nu A23 lu.length c23 nv B23 lv.length d23) := Cf.keep Kv.out hb
        replace B : Hid (Below w.heap.size w w28) := below_mono B.out hb
        clear hb
        go_wp2
        go_ret
        exact ⟨rfl, B.out⟩

end Go.Proofs.YtmelbahbjdogdaaGreatDoor

import Derived.Test.YtgkamalgokebgaaDoorFr3
import Derived.Test.YtgkamalgokebgaaDoorFr5
import Derived.Test.YtgkamalgokebgaaDoorFr6
import Derived.Test.YtgkamalgokebgaaDoorFr7
import Derived.Test.YtgkamalgokebgaaDoorFrA
import Derived.Test.YtgkamalgokebgaaDoorCd6
import Derived.Lib.ConvBytes
import Derived.Laws.IdiomStrings
namespace Go.Proofs.YtgkamalgokebgaaDoor
open Go.RowKit Go.Lib Go.Shelf
attribute [local go_sem ↓] Go.wp_at_zero Go.wp_at_succ
theorem okk_of {x : CD} (h1 : x.kd ≤ 255) (h2 : x.n = 0 ∨ x.n = 8) (h3 : x.e = 0) (h4 : x.k.length ≤ 100) (h5 : x.t.length ≤ 100) (h6 : x.o.length ≤ 100) : OkK x :=
  ⟨⟨h1, by omega, by omega, by omega, by omega, by omega, by omega, by omega⟩, by omega, by omega, by omega⟩

theorem cd_len {s : List UInt8} (h : s = code0 ∨ s = code1) : s.length = 16 := by
  rcases h with rfl | rfl
  · rfl
  · decide +kernel

theorem cds_okk {s : List UInt8} (h : s = code0 ∨ s = code1) : ∀ x ∈ cds5 s, OkK x := by
  intro x hx
  have hl := cd_len h
  simp only [cds5, cds4, List.mem_append, List.mem_cons, List.not_mem_nil, or_false] at hx
  rcases hx with (rfl | rfl | rfl | rfl) | rfl
  · exact okk_of (by decide) (by decide) rfl (by decide) (by decide) (by decide)
  · exact okk_of (by decide) (by decide) rfl (by decide) (by decide) (by decide)
  · exact okk_of (by decide) (by decide) rfl (by decide) (by decide) (by decide)
  · exact okk_of (by decide) (by decide) rfl (by decide) (by decide) (by decide)
  · exact okk_of (by show 5 ≤ 255; omega) (.inl rfl) rfl (by show 8 ≤ 100; omega) (by show s.length ≤ 100; omega) (by show 0 ≤ 100; omega)

def cds3 : List CD := [cdSimple, cdBitpix, cdNaxis]

theorem okk3 : ∀ x ∈ cds3, OkK x := fun x hx => cds_okk (.inl rfl) x (by
  simp only [cds3, List.mem_cons, List.not_mem_nil, or_false] at hx
  rcases hx with rfl | rfl | rfl <;> simp [cds5, cds4])

theorem okk1 : ∀ x ∈ [cdSum], OkK x := fun x hx => cds_okk (.inl rfl) x (by
  simp only [List.mem_cons, List.not_mem_nil, or_false] at hx
  subst hx
  simp [cds5, cds4])

/-- A block of cards, more cells behind them. -/
theorem slc_blk {W : World} {g c : Nat} {cs : List CD} {ex : Array Value} (h : BlkV W g 62 ((cs.flatMap CD.cells).toArray ++ ex)) (ha : ∀ x ∈ cs, OkK x) (h1 : cs.length ≤ c) (h2 : cs.length ≤ 4398046511104) : SlC W (g + 1) (some ⟨g, 0, none⟩) cs c :=
  ⟨fun _ => ⟨g, 0, rfl, Nat.lt_succ_self g, fun i v hv => by
    have hi := (List.getElem?_eq_some_iff.1 hv).1
    rw [Nat.zero_add, h.cell, Array.getElem?_append_left (by simpa using hi)]; simpa using hv⟩, ha, h1, h2⟩

theorem slc_own {W : World} {g c : Nat} {cs : List CD} (h : BlkV W g 62 (cs.flatMap CD.cells).toArray) (ha : ∀ x ∈ cs, OkK x) (h1 : cs.length ≤ c) (h2 : cs.length ≤ 4398046511104) : SlC W (g + 1) (some ⟨g, 0, none⟩) cs c :=
  slc_blk (ex := #[]) (by simpa using h) ha h1 h2

theorem own4 {W : World} {B0 : Nat} {v : Value} {xs : List Value} (h : W.ownsRow B0 62 7 v 4 xs) : ∃ g c, v = .slice (some ⟨g, 0, none⟩) 4 c ∧ 4 ≤ c ∧ c ≤ maxLen ∧ ∀ j u, xs[j]? = some u → W.cell? ⟨g, j, none⟩ = some u := by
  rcases h.2 with ⟨-, h0⟩ | ⟨g, cap, cur, rfl, hb, hg, hnc, hcm, hcs, htake⟩
  · omega
  · refine ⟨g, cap, rfl, hnc, hcm, fun j u hu => ?_⟩
    rw [cell_of_row W g j cur 62 (0, 0) hg]
    rw [← htake, List.getElem?_take] at hu
    split at hu
    · simpa using hu
    · cases hu

theorem own_less {W : World} {B0 B1 T n m : Nat} {v : Value} {xs : List Value} (h : W.ownsRow B0 T m v n xs) (hB : B1 ≤ B0) : W.ownsRow B1 T m v n xs := by
  rcases h with ⟨h1, h2 | ⟨g, cap, cur, e, hb, r⟩⟩
  · exact ⟨h1, .inl h2⟩
  · exact ⟨h1, .inr ⟨g, cap, cur, e, Nat.le_trans hB hb, r⟩⟩

theorem wp_app_card {w : World} {o : Oper} {a : Act} {K : Act → World → Prop} {Q : Exit → Act → World → Prop} (s x : Operand) (ho : o.op = .call { callee := .builtin .append, args := #[s, x], argTypes := #[35, 35] }) (g0 : Nat) (hs : a.eval s = .slice (some ⟨g0, 0, none⟩) 4 4) (g : Nat) (hx : a.eval x = .slice (some ⟨g, 0, none⟩) 1 1)
    (xs ys : List Value) (hxl : xs.length = 4 * 7) (hyl : ys.length = 1 * 7) (hb : ∀ j v, xs[j]? = some v → w.cell? ⟨g0, j, none⟩ = some v) (hg : BlkV w g 62 ys.toArray)
    (h : ∀ (c : Nat) (ex : Array Value), 5 ≤ c → K (a.put o.dst (.slice (some ⟨w.heap.size, 0, none⟩) 5 c)) (w.drew.alloc (.cells ((xs ++ ys).toArray ++ ex) 62))) : o.wp Tryd.prog a w K Q := by
  obtain ⟨i, z, hi, hz, hzs, hsz, hby⟩ := infoC
  have add0 : ∀ (b j : Nat), (⟨b, 0, none⟩ : Addr).add j = ⟨b, j, none⟩ := fun b j => by unfold Addr.add; split <;> simp_all
  have hr := fun ty => run_append_grow (P := Tryd.prog) (w := w) 35 ty 62 i z Tryd.underlying35 hi hz ⟨g0, 0, none⟩ 4 4 xs (by rw [hsz]; exact hxl) (fun j v hv => by rw [add0]; exact hb j v hv) ⟨g, 0, none⟩ 1 1 ys (by rw [hsz]; exact hyl) (fun j v hv => by rw [add0, hg.cell]; simpa using hv) (by omega) (by decide) (by rw [hby]; decide)
  have e2 : (xs ++ ys).toArray = xs.toArray ++ ys.toArray := by simp
  have h' := h (grownCap w (4 + 1) 4 62) (Builtin.zeroCells z.cells (grownCap w (4 + 1) 4 62 - (4 + 1))) (grownCap_ge w (4 + 1) 4 62)
  rw [e2] at h'
  unfold Oper.wp execOp
  simp only [ho, resolve, invoke, builtin, Sem.run_bind, Sem.run_pure, Result.andThen_ok, List.map_toArray, List.map_cons, List.map_nil, hs, hx, hr]
  exact h'

/-- []byte of a string. -/
theorem str_bytes (l : List UInt8) (W : World) : ∃ c W', (convert 9 41 (.string ⟨l.toArray⟩)).run Tryd.prog W = .ok (.slice (some ⟨W.heap.size, 0, none⟩) l.length c) W' ∧ RdV W' (W.heap.size + 1) (some ⟨W.heap.size, 0, none⟩) (Lib.byteCells l) ∧ Below W.heap.size W W' := by
  refine ⟨_, _, Go.Lib.run_convert_string_bytes W _ _ 5 ⟨l.toArray⟩ (u := .string) (by kernel_rfl) (by kernel_rfl) (by kernel_rfl), fun _ => ⟨W.heap.size, 0, rfl, by omega, fun i v hv => ?_⟩, ⟨rfl, rfl, rfl, by rw [Go.Lib.bytesWorld_size]; omega, fun k hk => Go.Lib.bytesWorld_at_old _ _ _ _ hk⟩⟩
  have hi := (List.getElem?_eq_some_iff.1 hv).1
  rw [Lib.byteCells_length] at hi
  rw [bc_get l i hi] at hv
  have hc := Go.Lib.bytesWorld_cell W 5 ⟨l.toArray⟩ i (by show i < l.toArray.size; simpa using hi)
  rw [Nat.zero_add, hc, ← hv]
  simp [List.getD, hi]

theorem bytes_str (l : List UInt8) (W : World) (g c : Nat) (h : BlkV W g 5 (Lib.byteCells l).toArray) : (convert 41 9 (.slice (some ⟨g, 0, none⟩) l.length c)).run Tryd.prog W = .ok (.string ⟨l.toArray⟩) W :=
  run_convert_bytes_back (P := Tryd.prog) W 41 9 5 ⟨g, 0, none⟩ c l (by kernel_rfl) (by kernel_rfl) (by kernel_rfl) (fun j hj => by
    have e : (⟨g, 0, none⟩ : Addr).add j = ⟨g, j, none⟩ := by unfold Addr.add; split <;> simp_all
    rw [e]
    exact h.at_ j (bc_get_arr l j hj))

theorem unit_fill {s P : List UInt8} (hP : P = (cds5 s).flatMap lineS) (h : P.length = 400) : fillS (P ++ lastS) 32 = unitS s := by
  have hl : (P ++ lastS).length = 480 := by rw [List.length_append, h]; rfl
  unfold fillS unitS
  rw [hl, ← hP]
  rfl

theorem app_nil (a : List UInt8) : ByteArray.mk a.toArray ++ ByteArray.mk #[] = ByteArray.mk a.toArray := by
  have h := app_bytes a []
  simpa using h

theorem total0 (w : World) : Calls Tryd.prog 10 #[.string ⟨#[]⟩] w fun e w' => e = .returned (.int .u32 0) ∧ Below w.heap.size w w' := total_any [] (by simp) w

theorem text_sum (w : World) : Calls Tryd.prog 22 #[.string ⟨#[68, 65, 84, 65, 83, 85, 77]⟩, .string ⟨#[48]⟩] w fun e w' => e = .returned (.agg #[.string ⟨#[68, 65, 84, 65, 83, 85, 77]⟩, .int .u8 5, .bool false, .int .i64 0, .int .i64 0, .string ⟨#[48]⟩, .string ⟨#[]⟩]) ∧ Below w.heap.size w w' := text_any [68, 65, 84, 65, 83, 85, 77] [48] w

theorem text_code (s : List UInt8) (w : World) : Calls Tryd.prog 22 #[.string ⟨#[67, 72, 69, 67, 75, 83, 85, 77]⟩, .string ⟨s.toArray⟩] w fun e w' => e = .returned (.agg #[.string ⟨#[67, 72, 69, 67, 75, 83, 85, 77]⟩, .int .u8 5, .bool false, .int .i64 0, .int .i64 0, .string ⟨s.toArray⟩, .string ⟨#[]⟩]) ∧ Below w.heap.size w w' := text_any [67, 72, 69, 67, 75, 83, 85, 77] s w

theorem front8' (w : World) : Calls Tryd.prog 21 #[.agg #[.int .i64 8, .slice none 0 0], .bool true] w fun e w' => ∃ g, e = .returned (.slice (some ⟨g, 0, none⟩) 3 3) ∧ w.heap.size ≤ g ∧ SlC w' w'.heap.size (some ⟨g, 0, none⟩) cds3 3 ∧ Below w.heap.size w w' := by
  refine (front8 w).mono ?_
  rintro e w' ⟨g, rfl, hg, hk, hb⟩
  have h := slc_own (cs := cds3) (c := 3) hk okk3 (by decide) (by decide)
  exact ⟨g, rfl, hg, ⟨h.rd.here, h.all, h.le, h.len⟩, hb⟩

theorem rep0 (W : World) : Calls Tryd.prog 24 #[.string ⟨#[48]⟩, .int .i64 16] W fun e w' => e = .returned (.string ⟨code0.toArray⟩) ∧ Below W.heap.size W w' := Tryd.strings_Repeat ⟨#[48]⟩ 16 W (by omega) (by show 1 * _ ≤ _; omega)

theorem concat3 (A1 A2 A3 : Option Addr) (c1 c2 c3 : Nat) (cs1 cs2 cs3 : List CD) (b0 c0 : Nat) (w : World) (hL : BlkV w b0 35 #[.slice A1 cs1.length c1, .slice A2 cs2.length c2, .slice A3 cs3.length c3]) (h1 : SlC w w.heap.size A1 cs1 c1) (h2 : SlC w w.heap.size A2 cs2 c2) (h3 : SlC w w.heap.size A3 cs3 c3) (hl : cs1.length + cs2.length + cs3.length ≤ 100000) :
    Calls Tryd.prog 20 #[.slice (some ⟨b0, 0, none⟩) 3 c0] w fun e w' => ∃ v, e = .returned v ∧ w'.ownsRow w.heap.size 62 7 v (cs1 ++ cs2 ++ cs3).length ((cs1 ++ cs2 ++ cs3).flatMap CD.cells) ∧ Below w.heap.size w w' := by
  have e : allC [⟨A1, c1, cs1⟩, ⟨A2, c2, cs2⟩, ⟨A3, c3, cs3⟩] = cs1 ++ cs2 ++ cs3 := by simp [allC]
  have h := concat_any [⟨A1, c1, cs1⟩, ⟨A2, c2, cs2⟩, ⟨A3, c3, cs3⟩] (b0 + 1) w.heap.size b0 c0 w (RdV.of_blk hL) (by
    intro x hx
    simp only [List.mem_cons, List.not_mem_nil, or_false] at hx
    rcases hx with rfl | rfl | rfl
    · exact h1
    · exact h2
    · exact h3) (by simp) (by rw [e]; simp; omega)
  rw [e] at h
  exact h

set_option maxRecDepth 100000 in
set_option maxHeartbeats 8000000 in
theorem unit8 (w : World) (hE : Env w) (hB : BarE w) : Calls Tryd.prog 12 #[.agg #[.int .i64 8, .slice none 0 0, .slice none 0 0, .slice none 0 0], .bool true] w fun e w' => e = .returned (.tuple #[.string ⟨(unitS code1).toArray⟩, .int .i64 0]) ∧ Below w.heap.size w w' := by
  have D8 := Lib.hid data8
  have EN := Lib.hid hE
  have BE := Lib.hid hB
  have R0 := Lib.hid rep0
  have C6 := Lib.hid front8'
  have C10 := Lib.hid total0
  have C12 := Lib.hid fmt0
  have C13 := Lib.hid text_sum
  have K0 : Hid (BlkV (w.alloc (.cells #[Value.int .i64 8, .slice none 0 0, .slice none 0 0, .slice none 0 0] 37)) w.heap.size 37 #[Value.int .i64 8, .slice none 0 0, .slice none 0 0, .slice none 0 0]) := BlkV.fresh rfl _ _
  have B0 : Hid (Below w.heap.size w (w.alloc (.cells #[Value.int .i64 8, .slice none 0 0, .slice none 0 0, .slice none 0 0] 37))) := blw1 _ _
  clear hE hB
  go_enter Tryd.func12, Tryd.ntmps12
  go_wp2_with fail
  generalize w.alloc (.cells #[Value.int .i64 8, .slice none 0 0, .slice none 0 0, .slice none 0 0] 37) = w0 at *
  refine (D8.out _).mono ?_
  rintro e w1 ⟨rfl, hb⟩
  replace K0 := Lib.hid (K0.out.keep hb)
  replace B0 := Lib.hid (below_mono B0.out hb)
  clear hb D8
  go_upto_region 2 with fail
  go_cut [7] from 16 to 32 (fun s7 wc => ∃ v, s7 = v ∧ wc.ownsRow w1.heap.size 62 7 v 4 (cds4.flatMap CD.cells) ∧ Below w1.heap.size w1 wc)
  case first =>
    clear EN BE R0
    have JS : Hid (∀ X, Below w1.heap.size w1 X → X.cell? ⟨w.heap.size, 0, none⟩ = some (.int .i64 8) ∧ X.cell? ⟨w.heap.size, 1, none⟩ = some (.slice none 0 0) ∧ X.cell? ⟨w.heap.size, 3, none⟩ = some (.slice none 0 0)) := fun X h => ⟨kept_cell h (K0.out.at_ 0 rfl), kept_cell h (K0.out.at_ 1 rfl), kept_cell h (K0.out.at_ 3 rfl)⟩
    have Y0 : Hid (Below w1.heap.size w1 w1.drew) := (Below.refl _ _).drew
    refine wp_region_held_drew (S := fun w' => w'.cell? ⟨w.heap.size, 0, none⟩ = some (.int .i64 8) ∧ w'.cell? ⟨w.heap.size, 1, none⟩ = some (.slice none 0 0) ∧ w'.cell? ⟨w.heap.size, 3, none⟩ = some (.slice none 0 0)) (by kernel_rfl) (JS.out _ Y0.out) (fun hHeld => ?_)
    generalize w1.drew = wd at *
    refine wpAnyH_take (i := 0) (v := .pointer (some ⟨w.heap.size, 0, none⟩)) rfl (by kernel_rfl) (by kernel_rfl) (by kernel_rfl) (fun _ _ _ h => h) (Or.inl ⟨by rfl, by intro w hSw; (try dsimp only at hSw); go_simp⟩) (by assumption) ?_
    (try simp only [Act.put, List.getElem_toArray, List.getElem_cons_zero, List.setIfInBounds_toArray, List.set_cons_zero, List.set_cons_succ])
    refine wpAnyH_take (i := 1) (v := .int .i64 8) rfl (by kernel_rfl) (by kernel_rfl) (by kernel_rfl) (fun _ _ _ h => h) (Or.inl ⟨by rfl, by intro w hSw; (try dsimp only at hSw); go_simp⟩) (by assumption) ?_
    (try simp only [Act.put, List.getElem_toArray, List.getElem_cons_zero, List.getElem_cons_succ, List.setIfInBounds_toArray, List.set_cons_zero, List.set_cons_succ])
    refine wpAnyH_take (i := 2) (v := .pointer (some ⟨w.heap.size, 1, none⟩)) rfl (by kernel_rfl) (by kernel_rfl) (by kernel_rfl) (fun _ _ _ h => h) (Or.inl ⟨by rfl, by intro w hSw; (try dsimp only at hSw); go_simp⟩) (by assumption) ?_
    (try simp only [Act.put, List.getElem_toArray, List.getElem_cons_zero, List.getElem_cons_succ, List.setIfInBounds_toArray, List.set_cons_zero, List.set_cons_succ])
    refine wpAnyH_take (i := 3) (v := .slice none 0 0) rfl (by kernel_rfl) (by kernel_rfl) (by kernel_rfl) (fun _ _ _ h => h) (Or.inl ⟨by rfl, by intro w hSw; (try dsimp only at hSw); go_simp⟩) (by assumption) ?_
    (try simp only [Act.put, List.getElem_toArray, List.getElem_cons_zero, List.getElem_cons_succ, List.setIfInBounds_toArray, List.set_cons_zero, List.set_cons_succ])
    refine wpAnyH_take (i := 4) (v := .agg #[.int .i64 8, .slice none 0 0]) rfl (by kernel_rfl) (by kernel_rfl) (by kernel_rfl) (fun _ _ _ h => h) (Or.inl ⟨by rfl, by intro w hSw; (try dsimp only at hSw); go_simp⟩) (by assumption) ?_
    (try simp only [Act.put, List.getElem_toArray, List.getElem_cons_zero, List.getElem_cons_succ, List.setIfInBounds_toArray, List.set_cons_zero, List.set_cons_succ])
    refine wpAnyH_take (i := 5) (v := .bool true) rfl (by kernel_rfl) (by kernel_rfl) (by kernel_rfl) (fun _ _ _ h => h) (Or.inl ⟨by rfl, by intro w hSw; (try dsimp only at hSw); go_simp⟩) (by assumption) ?_
    (try simp only [Act.put, List.getElem_toArray, List.getElem_cons_zero, List.getElem_cons_succ, List.setIfInBounds_toArray, List.set_cons_zero, List.set_cons_succ])
    refine wpAnyH_take (i := 7) (v := .pointer (some ⟨w.heap.size, 3, none⟩)) rfl (by kernel_rfl) (by kernel_rfl) (by kernel_rfl) (fun _ _ _ h => h) (Or.inl ⟨by rfl, by intro w hSw; (try dsimp only at hSw); go_simp⟩) (by assumption) ?_
    (try simp only [Act.put, List.getElem_toArray, List.getElem_cons_zero, List.getElem_cons_succ, List.setIfInBounds_toArray, List.set_cons_zero, List.set_cons_succ])
    refine wpAnyH_take (i := 8) (v := .slice none 0 0) rfl (by kernel_rfl) (by kernel_rfl) (by kernel_rfl) (fun _ _ _ h => h) (Or.inl ⟨by rfl, by intro w hSw; (try dsimp only at hSw); go_simp⟩) (by assumption) ?_
    (try simp only [Act.put, List.getElem_toArray, List.getElem_cons_zero, List.getElem_cons_succ, List.setIfInBounds_toArray, List.set_cons_zero, List.set_cons_succ])
    refine wpAnyH_take (i := 9) (v := .string ⟨#[]⟩) rfl (by kernel_rfl) (by kernel_rfl) (by kernel_rfl) (fun _ _ _ h => h) (Or.inl ⟨by rfl, by intro w hSw; (try dsimp only at hSw); go_simp⟩) (by assumption) ?_
    (try simp only [Act.put, List.getElem_toArray, List.getElem_cons_zero, List.getElem_cons_succ, List.setIfInBounds_toArray, List.set_cons_zero, List.set_cons_succ])
    refine wpAnyH_ready (rs := [6]) (by kernel_rfl) (by simp) ?_
    refine AllReadyH.cons rfl (fun K hK => ?_) AllReadyH.nil
    go_simp
    (with_reducible refine (C6.out wd).mono ?_)
    rintro x v1 ⟨g1, rfl, hg1, hs1, hb⟩
    (try dsimp only)
    have S1 := Lib.hid hs1
    have Y1 := Lib.hid (below_mono Y0.out hb)
    clear hb hs1 hg1
    (try go_wp2_with fail)
    refine hK.out _ _ (JS.out _ Y1.out) (fun hHeld2 => ?_)
    clear hK K hHeld
    have hHeld := hHeld2
    clear hHeld2
    (try simp only [Act.put, List.getElem_toArray, List.getElem_cons_zero, List.getElem_cons_succ, List.setIfInBounds_toArray, List.set_cons_zero, List.set_cons_succ])
    refine wpAnyH_ready (rs := [10]) (by kernel_rfl) (by simp) ?_
    refine AllReadyH.cons rfl (fun K hK => ?_) AllReadyH.nil
    go_simp
    (with_reducible refine (C10.out v1).mono ?_)
    rintro x v2 ⟨rfl, hb⟩
    (try dsimp only)
    have S2 := Lib.hid (S1.out.below hb)
    have Y2 := Lib.hid (below_mono Y1.out hb)
    clear hb S1
    (try go_wp2_with fail)
    refine hK.out _ _ (JS.out _ Y2.out) (fun hHeld2 => ?_)
    clear hK K hHeld
    have hHeld := hHeld2
    clear hHeld2
    (try simp only [Act.put, List.getElem_toArray, List.getElem_cons_zero, List.getElem_cons_succ, List.setIfInBounds_toArray, List.set_cons_zero, List.set_cons_succ])
    refine wpAnyH_take (i := 11) (v := .int .u64 0) rfl (by kernel_rfl) (by kernel_rfl) (by kernel_rfl) (fun _ _ _ h => h) (Or.inl ⟨by rfl, by intro w hSw; (try dsimp only at hSw); go_simp; rfl⟩) (by assumption) ?_
    (try simp only [Act.put, List.getElem_toArray, List.getElem_cons_zero, List.getElem_cons_succ, List.setIfInBounds_toArray, List.set_cons_zero, List.set_cons_succ])
    refine wpAnyH_ready (rs := [12]) (by kernel_rfl) (by simp) ?_
    refine AllReadyH.cons rfl (fun K hK => ?_) AllReadyH.nil
    go_simp
    (with_reducible refine (C12.out v2).mono ?_)
    rintro x v3 ⟨rfl, hb⟩
    (try dsimp only)
    have S3 := Lib.hid (S2.out.below hb)
    have Y3 := Lib.hid (below_mono Y2.out hb)
    clear hb S2
    (try go_wp2_with fail)
    refine hK.out _ _ (JS.out _ Y3.out) (fun hHeld2 => ?_)
    clear hK K hHeld
    have hHeld := hHeld2
    clear hHeld2
    (try simp only [Act.put, List.getElem_toArray, List.getElem_cons_zero, List.getElem_cons_succ, List.setIfInBounds_toArray, List.set_cons_zero, List.set_cons_succ])
    refine wpAnyH_ready (rs := [13]) (by kernel_rfl) (by simp) ?_
    refine AllReadyH.cons rfl (fun K hK => ?_) AllReadyH.nil
    go_simp
    (with_reducible refine (C13.out v3).mono ?_)
    rintro x v4 ⟨rfl, hb⟩
    (try dsimp only)
    have S4 := Lib.hid (S3.out.below hb)
    have Y4 := Lib.hid (below_mono Y3.out hb)
    clear hb S3
    (try go_wp2_with fail)
    refine hK.out _ _ (JS.out _ Y4.out) (fun hHeld2 => ?_)
    clear hK K hHeld
    have hHeld := hHeld2
    clear hHeld2
    (try simp only [Act.put, List.getElem_toArray, List.getElem_cons_zero, List.getElem_cons_succ, List.setIfInBounds_toArray, List.set_cons_zero, List.set_cons_succ])
    refine wpAnyH_ready (rs := [14]) (by kernel_rfl) (by simp) ?_
    refine AllReadyH.cons rfl (fun K hK => ?_) AllReadyH.nil
    go_simp
    have hb := blw1 v4 (.cells #[Value.string ⟨#[68, 65, 84, 65, 83, 85, 77]⟩, .int .u8 5, .bool false, .int .i64 0, .int .i64 0, .string ⟨#[48]⟩, .string ⟨#[]⟩] 62)
    have NB14 : Hid (BlkV (v4.alloc (.cells #[Value.string ⟨#[68, 65, 84, 65, 83, 85, 77]⟩, .int .u8 5, .bool false, .int .i64 0, .int .i64 0, .string ⟨#[48]⟩, .string ⟨#[]⟩] 62)) v4.heap.size 62 (#[Value.string ⟨#[68, 65, 84, 65, 83, 85, 77]⟩, .int .u8 5, .bool false, .int .i64 0, .int .i64 0, .string ⟨#[48]⟩, .string ⟨#[]⟩])) := BlkV.fresh rfl _ _
    generalize v4.alloc (.cells #[Value.string ⟨#[68, 65, 84, 65, 83, 85, 77]⟩, .int .u8 5, .bool false, .int .i64 0, .int .i64 0, .string ⟨#[48]⟩, .string ⟨#[]⟩] 62) = v5 at *
    have S5 := Lib.hid (S4.out.below hb)
    have Y5 := Lib.hid (below_mono Y4.out hb)
    refine hK.out _ _ (JS.out _ Y5.out) (fun hHeld2 => ?_)
    clear hK K hHeld hb S4
    have hHeld := hHeld2
    clear hHeld2
    (try simp only [Act.put, List.getElem_toArray, List.getElem_cons_zero, List.getElem_cons_succ, List.setIfInBounds_toArray, List.set_cons_zero, List.set_cons_succ])
    refine wpAnyH_ready (rs := [15]) (by kernel_rfl) (by simp) ?_
    refine AllReadyH.cons rfl (fun K hK => ?_) AllReadyH.nil
    go_simp
    have hb := blw1 v5 (.cells #[Value.slice (some ⟨g1, 0, none⟩) 3 3, .slice none 0 0, .slice (some ⟨v4.heap.size, 0, none⟩) 1 1] 35)
    have NB15 : Hid (BlkV (v5.alloc (.cells #[Value.slice (some ⟨g1, 0, none⟩) 3 3, .slice none 0 0, .slice (some ⟨v4.heap.size, 0, none⟩) 1 1] 35)) v5.heap.size 35 (#[Value.slice (some ⟨g1, 0, none⟩) 3 3, .slice none 0 0, .slice (some ⟨v4.heap.size, 0, none⟩) 1 1])) := BlkV.fresh rfl _ _
    generalize v5.alloc (.cells #[Value.slice (some ⟨g1, 0, none⟩) 3 3, .slice none 0 0, .slice (some ⟨v4.heap.size, 0, none⟩) 1 1] 35) = v6 at *
    have S6 := Lib.hid (S5.out.below hb)
    have Y6 := Lib.hid (below_mono Y5.out hb)
    have T6 := Lib.hid (NB14.out.keep hb)
    refine hK.out _ _ (JS.out _ Y6.out) (fun hHeld2 => ?_)
    clear hK K hHeld hb S5
    have hHeld := hHeld2
    clear hHeld2
    (try simp only [Act.put, List.getElem_toArray, List.getElem_cons_zero, List.getElem_cons_succ, List.setIfInBounds_toArray, List.set_cons_zero, List.set_cons_succ])
    have SD : Hid (SlC v6 v6.heap.size (some ⟨v4.heap.size, 0, none⟩) [cdSum] 1) := by
      have h := slc_own (cs := [cdSum]) (c := 1) T6.out okk1 (by decide) (by decide)
      exact ⟨h.rd.here, h.all, h.le, h.len⟩
    have SX : Hid (SlC v6 v6.heap.size (some ⟨g1, 0, none⟩) cds3 3) := ⟨S6.out.rd.here, S6.out.all, S6.out.le, S6.out.len⟩
    have SN : Hid (SlC v6 v6.heap.size none [] 0) := ⟨RdV.nil _ _ _, (fun x h => by cases h), Nat.le_refl _, Nat.zero_le _⟩
    have C16 : Hid (Calls Tryd.prog 20 #[.slice (some ⟨v5.heap.size, 0, none⟩) 3 3] v6 fun e w' => ∃ v, e = .returned v ∧ w'.ownsRow v6.heap.size 62 7 v 4 (cds4.flatMap CD.cells) ∧ Below v6.heap.size v6 w') := concat3 (some ⟨g1, 0, none⟩) none (some ⟨v4.heap.size, 0, none⟩) 3 0 1 cds3 [] [cdSum] v5.heap.size 3 v6 NB15.out SX.out SN.out SD.out (by decide)
    refine wpAnyH_ready (rs := [16]) (by kernel_rfl) (by simp) ?_
    refine AllReadyH.cons rfl (fun K hK => ?_) AllReadyH.nil
    go_simp
    (with_reducible refine (C16.out).mono ?_)
    rintro x v7 ⟨v, rfl, ho, hb⟩
    (try dsimp only)
    have HO := Lib.hid ho
    have Y7 := Lib.hid (below_mono Y6.out hb)
    clear hb ho
    (try go_wp2_with fail)
    refine hK.out _ _ (JS.out _ Y7.out) (fun hHeld2 => ?_)
    clear hK K hHeld
    have hHeld := hHeld2
    clear hHeld2
    (try simp only [Act.put, List.getElem_toArray, List.getElem_cons_zero, List.getElem_cons_succ, List.setIfInBounds_toArray, List.set_cons_zero, List.set_cons_succ])
    refine wpAnyH_take (i := 17) (v := v) rfl (by kernel_rfl) (by kernel_rfl) (by kernel_rfl) (fun _ _ _ h => h) (Or.inl ⟨by rfl, by intro w hSw; (try dsimp only at hSw); go_simp⟩) (by assumption) ?_
    (try simp only [Act.put, List.getElem_toArray, List.getElem_cons_zero, List.getElem_cons_succ, List.setIfInBounds_toArray, List.set_cons_zero, List.set_cons_succ])
    refine wpAnyH_done (by kernel_rfl) ?_ _
    clear hHeld
    go_wp2_with fail
    go_meet
    exact ⟨v, rfl, own_less HO.out Y6.out.size, Y7.out⟩
  case rest =>
    obtain ⟨v, rfl, ho, hb⟩ := hcut
    obtain ⟨g, c, rfl, hc4, hcm, hrd⟩ := own4 ho
    replace B0 := Lib.hid (below_mono B0.out hb)
    have RD : Hid (∀ j u, (cds4.flatMap CD.cells)[j]? = some u → wc.cell? ⟨g, j, none⟩ = some u) := hrd
    clear ho hb hrd C6 C12 C13 K0 C10
    go_wp2_with fail
    refine (R0.out _).mono ?_
    rintro e w2 ⟨rfl, hb⟩
    replace RD : Hid (∀ j u, (cds4.flatMap CD.cells)[j]? = some u → w2.cell? ⟨g, j, none⟩ = some u) := fun j u h => kept_cell hb (RD.out j u h)
    replace B0 := Lib.hid (below_mono B0.out hb)
    clear hb R0
    go_wp2
    go_loopw [8, 34] (fun s8 s34 wz => ∃ (p : Nat) (cd : List UInt8), ((p = 0 ∧ cd = code0) ∨ (p = 1 ∧ cd = code1)) ∧ s8 = .string ⟨cd.toArray⟩ ∧ s34 = .int .i64 p ∧ (∀ j u, (cds4.flatMap CD.cells)[j]? = some u → wz.cell? ⟨g, j, none⟩ = some u) ∧ Below w.heap.size w wz) (fun _ v _ => 2 - (RowKit.intOf v).toNat)
    case atStart => exact ⟨0, code0, .inl ⟨rfl, rfl⟩, rfl, rfl, RD.out, B0.out⟩
    case round =>
      clear RD B0
      obtain ⟨p, cd, hp, rfl, rfl, hrd, hb⟩ := hrel
      have RD : Hid (∀ j u, (cds4.flatMap CD.cells)[j]? = some u → wr.cell? ⟨g, j, none⟩ = some u) := hrd
      have B0 := Lib.hid hb
      have HP := Lib.hid hp
      have tl : decide ((p : Int) < 2) = true := decide_eq_true (by omega)
      have hcd : cd = code0 ∨ cd = code1 := hp.imp And.right And.right
      have LN := Lib.hid (cds_len hcd)
      have OK := Lib.hid (cds_okk hcd)
      have GD := Lib.hid (cds_good hcd)
      have C7 := Lib.hid (text_code cd)
      have UF := Lib.hid (fun P h => unit_fill (s := cd) (P := P) h)
      have UL := Lib.hid (unit_len cd hcd)
      clear hrd hb hp hcd
      go_upto_region 6 with fail
      go_cut [9, 10] from 36 to 49 (fun s9 s10 wq => s9 = .string ⟨((cds5 cd).flatMap lineS).toArray⟩ ∧ s10 = .int .i64 0 ∧ Below wr.heap.size wr wq)
      case first =>
        have Y0 : Hid (Below wr.heap.size wr wr.drew) := (Below.refl _ _).drew
        refine wp_region_held_drew (S := fun w' => True) (by kernel_rfl) (trivial) (fun hHeld => ?_)
        generalize wr.drew = wd at *
        refine wpAnyH_take (i := 0) (v := .slice (some ⟨g, 0, none⟩) 4 c) rfl (by kernel_rfl) (by kernel_rfl) (by kernel_rfl) (fun _ _ _ h => h) (Or.inl ⟨by rfl, by intro w hSw; (try dsimp only at hSw); go_simp⟩) (by assumption) ?_
        (try simp only [Act.put, List.getElem_toArray, List.getElem_cons_zero, List.setIfInBounds_toArray, List.set_cons_zero, List.set_cons_succ])
        refine wpAnyH_take (i := 1) (v := .slice (some ⟨g, 0, none⟩) 4 c) rfl (by kernel_rfl) (by kernel_rfl) (by kernel_rfl) (fun _ _ _ h => h) (Or.inl ⟨by rfl, by intro w hSw; (try dsimp only at hSw); go_simp⟩) (by assumption) ?_
        (try simp only [Act.put, List.getElem_toArray, List.getElem_cons_zero, List.getElem_cons_succ, List.setIfInBounds_toArray, List.set_cons_zero, List.set_cons_succ])
        refine wpAnyH_take (i := 2) (v := .int .i64 4) rfl (by kernel_rfl) (by kernel_rfl) (by kernel_rfl) (fun _ _ _ h => h) (Or.inl ⟨by rfl, by intro w hSw; (try dsimp only at hSw); go_simp⟩) (by assumption) ?_
        (try simp only [Act.put, List.getElem_toArray, List.getElem_cons_zero, List.getElem_cons_succ, List.setIfInBounds_toArray, List.set_cons_zero, List.set_cons_succ])
        refine wpAnyH_take (i := 3) (v := .slice (some ⟨g, 0, none⟩) 4 c) rfl (by kernel_rfl) (by kernel_rfl) (by kernel_rfl) (fun _ _ _ h => h) (Or.inl ⟨by rfl, by intro w hSw; (try dsimp only at hSw); go_simp⟩) (by assumption) ?_
        (try simp only [Act.put, List.getElem_toArray, List.getElem_cons_zero, List.getElem_cons_succ, List.setIfInBounds_toArray, List.set_cons_zero, List.set_cons_succ])
        refine wpAnyH_take (i := 4) (v := .int .i64 4) rfl (by kernel_rfl) (by kernel_rfl) (by kernel_rfl) (fun _ _ _ h => h) (Or.inl ⟨by rfl, by intro w hSw; (try dsimp only at hSw); go_simp⟩) (by assumption) ?_
        (try simp only [Act.put, List.getElem_toArray, List.getElem_cons_zero, List.getElem_cons_succ, List.setIfInBounds_toArray, List.set_cons_zero, List.set_cons_succ])
        refine wpAnyH_take (i := 5) (v := .slice (some ⟨g, 0, none⟩) 4 4) rfl (by kernel_rfl) (by kernel_rfl) (by kernel_rfl) (fun _ _ _ h => h) (Or.inl ⟨by rfl, by intro w hSw; (try dsimp only at hSw); go_simp; intro h; omega⟩) (by assumption) ?_
        (try simp only [Act.put, List.getElem_toArray, List.getElem_cons_zero, List.getElem_cons_succ, List.setIfInBounds_toArray, List.set_cons_zero, List.set_cons_succ])
        refine wpAnyH_take (i := 6) (v := .string ⟨cd.toArray⟩) rfl (by kernel_rfl) (by kernel_rfl) (by kernel_rfl) (fun _ _ _ h => h) (Or.inl ⟨by rfl, by intro w hSw; (try dsimp only at hSw); go_simp⟩) (by assumption) ?_
        (try simp only [Act.put, List.getElem_toArray, List.getElem_cons_zero, List.getElem_cons_succ, List.setIfInBounds_toArray, List.set_cons_zero, List.set_cons_succ])
        refine wpAnyH_ready (rs := [7]) (by kernel_rfl) (by simp) ?_
        refine AllReadyH.cons rfl (fun K hK => ?_) AllReadyH.nil
        go_simp
        (with_reducible refine (C7.out wd).mono ?_)
        rintro x v1 ⟨rfl, hb⟩
        (try dsimp only)
        have Y1 := Lib.hid (below_mono Y0.out hb)
        clear hb C7
        (try go_wp2_with fail)
        refine hK.out _ _ (trivial) (fun hHeld2 => ?_)
        clear hK K hHeld
        have hHeld := hHeld2
        clear hHeld2
        (try simp only [Act.put, List.getElem_toArray, List.getElem_cons_zero, List.getElem_cons_succ, List.setIfInBounds_toArray, List.set_cons_zero, List.set_cons_succ])
        refine wpAnyH_ready (rs := [8]) (by kernel_rfl) (by simp) ?_
        refine AllReadyH.cons rfl (fun K hK => ?_) AllReadyH.nil
        go_simp
        have hb := blw1 v1 (.cells #[Value.string ⟨#[67, 72, 69, 67, 75, 83, 85, 77]⟩, .int .u8 5, .bool false, .int .i64 0, .int .i64 0, .string ⟨cd.toArray⟩, .string ⟨#[]⟩] 62)
        have NB : Hid (BlkV (v1.alloc (.cells #[Value.string ⟨#[67, 72, 69, 67, 75, 83, 85, 77]⟩, .int .u8 5, .bool false, .int .i64 0, .int .i64 0, .string ⟨cd.toArray⟩, .string ⟨#[]⟩] 62)) v1.heap.size 62 (cdCode cd).cells.toArray) := BlkV.fresh rfl _ _
        generalize v1.alloc (.cells #[Value.string ⟨#[67, 72, 69, 67, 75, 83, 85, 77]⟩, .int .u8 5, .bool false, .int .i64 0, .int .i64 0, .string ⟨cd.toArray⟩, .string ⟨#[]⟩] 62) = v2 at *
        have Y2 := Lib.hid (below_mono Y1.out hb)
        refine hK.out _ _ trivial (fun hHeld2 => ?_)
        clear hK K hHeld hb
        have hHeld := hHeld2
        clear hHeld2
        (try simp only [Act.put, List.getElem_toArray, List.getElem_cons_zero, List.getElem_cons_succ, List.setIfInBounds_toArray, List.set_cons_zero, List.set_cons_succ])
        refine wpAnyH_ready (rs := [9]) (by kernel_rfl) (by simp) ?_
        refine AllReadyH.cons rfl (fun K hK => ?_) AllReadyH.nil
        rw [if_pos (by rfl)]
        refine wp_app_card (.tmp 42) (.tmp 45) rfl g rfl v1.heap.size rfl (cds4.flatMap CD.cells) (cdCode cd).cells rfl rfl (fun j u hu => kept_cell Y2.out (RD.out j u hu)) NB.out (fun c5 ex hc5 => ?_)
        have e5 : (cds5 cd).flatMap CD.cells = (cds4.flatMap CD.cells) ++ (cdCode cd).cells := by simp [cds5]
        have S5 : Hid (SlC (v2.drew.alloc (.cells (((cds4.flatMap CD.cells) ++ (cdCode cd).cells).toArray ++ ex) 62)) (v2.heap.size + 1) (some ⟨v2.heap.size, 0, none⟩) (cds5 cd) c5) := slc_blk (by rw [e5]; exact BlkV.fresh rfl _ _) OK.out hc5 (by show 5 ≤ _; omega)
        have hb : Below v2.heap.size v2 (v2.drew.alloc (.cells (((cds4.flatMap CD.cells) ++ (cdCode cd).cells).toArray ++ ex) 62)) := (Below.refl _ _).drew.alloc (Nat.le_refl _) _
        clear e5
        generalize v2.drew.alloc (.cells (((cds4.flatMap CD.cells) ++ (cdCode cd).cells).toArray ++ ex) 62) = v3 at *
        have Y3 := Lib.hid (below_mono Y2.out hb)
        refine hK.out _ _ trivial (fun hHeld2 => ?_)
        clear hK K hHeld hb
        have hHeld := hHeld2
        clear hHeld2
        (try simp only [Act.put, List.getElem_toArray, List.getElem_cons_zero, List.getElem_cons_succ, List.setIfInBounds_toArray, List.set_cons_zero, List.set_cons_succ])
        have CP : Hid (Calls Tryd.prog 25 #[.slice (some ⟨v2.heap.size, 0, none⟩) 5 c5] v3 fun e w' => e = .returned (.tuple #[.string ⟨((cds5 cd).flatMap lineS).toArray⟩, .int .i64 0]) ∧ Below v3.heap.size v3 w') := print_good (cds5 cd) _ _ c5 v3 S5.out (EN.out.keep (below_mono B0.out Y3.out)) (by show 5 ≤ 200; omega) GD.out (by rw [LN.out]; omega)
        refine wpAnyH_ready (rs := [10]) (by kernel_rfl) (by simp) ?_
        refine AllReadyH.cons rfl (fun K hK => ?_) AllReadyH.nil
        go_simp
        (with_reducible refine (CP.out).mono ?_)
        rintro x v4 ⟨rfl, hb⟩
        (try dsimp only)
        have Y4 := Lib.hid (below_mono Y3.out hb)
        clear hb CP S5
        (try go_wp2_with fail)
        refine hK.out _ _ (trivial) (fun hHeld2 => ?_)
        clear hK K hHeld
        have hHeld := hHeld2
        clear hHeld2
        (try simp only [Act.put, List.getElem_toArray, List.getElem_cons_zero, List.getElem_cons_succ, List.setIfInBounds_toArray, List.set_cons_zero, List.set_cons_succ])
        refine wpAnyH_take (i := 11) (v := .tuple #[.string ⟨((cds5 cd).flatMap lineS).toArray⟩, .int .i64 0]) rfl (by kernel_rfl) (by kernel_rfl) (by kernel_rfl) (fun _ _ _ h => h) (Or.inl ⟨by rfl, by intro w hSw; (try dsimp only at hSw); go_simp⟩) (by assumption) ?_
        (try simp only [Act.put, List.getElem_toArray, List.getElem_cons_zero, List.getElem_cons_succ, List.setIfInBounds_toArray, List.set_cons_zero, List.set_cons_succ])
        refine wpAnyH_take (i := 12) (v := .string ⟨((cds5 cd).flatMap lineS).toArray⟩) rfl (by kernel_rfl) (by kernel_rfl) (by kernel_rfl) (fun _ _ _ h => h) (Or.inl ⟨by rfl, by intro w hSw; (try dsimp only at hSw); go_simp⟩) (by assumption) ?_
        (try simp only [Act.put, List.getElem_toArray, List.getElem_cons_zero, List.getElem_cons_succ, List.setIfInBounds_toArray, List.set_cons_zero, List.set_cons_succ])
        refine wpAnyH_take (i := 13) (v := .int .i64 0) rfl (by kernel_rfl) (by kernel_rfl) (by kernel_rfl) (fun _ _ _ h => h) (Or.inl ⟨by rfl, by intro w hSw; (try dsimp only at hSw); go_simp⟩) (by assumption) ?_
        (try simp only [Act.put, List.getElem_toArray, List.getElem_cons_zero, List.getElem_cons_succ, List.setIfInBounds_toArray, List.set_cons_zero, List.set_cons_succ])
        refine wpAnyH_take (i := 14) (v := .string ⟨((cds5 cd).flatMap lineS).toArray⟩) rfl (by kernel_rfl) (by kernel_rfl) (by kernel_rfl) (fun _ _ _ h => h) (Or.inl ⟨by rfl, by intro w hSw; (try dsimp only at hSw); go_simp⟩) (by assumption) ?_
        (try simp only [Act.put, List.getElem_toArray, List.getElem_cons_zero, List.getElem_cons_succ, List.setIfInBounds_toArray, List.set_cons_zero, List.set_cons_succ])
        refine wpAnyH_take (i := 15) (v := .int .i64 0) rfl (by kernel_rfl) (by kernel_rfl) (by kernel_rfl) (fun _ _ _ h => h) (Or.inl ⟨by rfl, by intro w hSw; (try dsimp only at hSw); go_simp⟩) (by assumption) ?_
        (try simp only [Act.put, List.getElem_toArray, List.getElem_cons_zero, List.getElem_cons_succ, List.setIfInBounds_toArray, List.set_cons_zero, List.set_cons_succ])
        refine wpAnyH_done (by kernel_rfl) ?_ _
        clear hHeld
        go_wp2_with fail
        go_meet
        exact ⟨rfl, rfl, Y4.out⟩
      case rest =>
        obtain ⟨rfl, rfl, hb⟩ := hcut
        replace RD : Hid (∀ j u, (cds4.flatMap CD.cells)[j]? = some u → wc.cell? ⟨g, j, none⟩ = some u) := fun j u h => kept_cell hb (RD.out j u h)
        replace B0 := Lib.hid (below_mono B0.out hb)
        clear hb C7 OK GD
        have UF2 := UF.out _ rfl LN.out
        have hP := LN.out
        generalize (cds5 cd).flatMap lineS = P at *
        have hPl : (P ++ lastS).length = 480 := by rw [List.length_append, hP]; rfl
        have hls : lastS.length = 80 := rfl
        clear UF LN
        go_wp2_with fail
        refine (last_any _).mono ?_
        rintro e w3 ⟨rfl, hb⟩
        replace RD : Hid (∀ j u, (cds4.flatMap CD.cells)[j]? = some u → w3.cell? ⟨g, j, none⟩ = some u) := fun j u h => kept_cell hb (RD.out j u h)
        replace B0 := Lib.hid (below_mono B0.out hb)
        clear hb
        obtain ⟨c6, w4, hcv, hrd6, hb⟩ := str_bytes (P ++ lastS) w3
        rw [← app_bytes, hPl] at hcv
        have FL : Hid (Calls Tryd.prog 26 #[.slice (some ⟨w3.heap.size, 0, none⟩) 480 c6, .int .u8 32] w4 fun e w' => ∃ g, e = .returned (.slice (some ⟨g, 0, none⟩) 2880 2880) ∧ BlkV w' g 5 (Lib.byteCells (unitS cd)).toArray ∧ Below w4.heap.size w4 w') := by
          have h := fill_any (P ++ lastS) (some ⟨w3.heap.size, 0, none⟩) _ c6 32 (by omega) w4 hrd6
          rw [UF2, UL.out, hPl] at h
          refine Calls.mono h ?_
          rintro e w' ⟨g, he, -, h1, h2⟩
          exact ⟨g, he, h1, h2⟩
        replace RD : Hid (∀ j u, (cds4.flatMap CD.cells)[j]? = some u → w4.cell? ⟨g, j, none⟩ = some u) := fun j u h => kept_cell hb (RD.out j u h)
        replace B0 := Lib.hid (below_mono B0.out hb)
        clear hb hrd6 UF2 hPl
        go_wp2_with fail
        clear hcv
        refine FL.out.mono ?_
        rintro e w5 ⟨g5, rfl, hk, hb⟩
        replace RD : Hid (∀ j u, (cds4.flatMap CD.cells)[j]? = some u → w5.cell? ⟨g, j, none⟩ = some u) := fun j u h => kept_cell hb (RD.out j u h)
        replace B0 := Lib.hid (below_mono B0.out hb)
        clear hb FL
        have hcv := bytes_str (unitS cd) w5 g5 2880 hk
        rw [UL.out] at hcv
        have AN := Lib.hid (app_nil (unitS cd))
        have TT := Lib.hid (fun W => total_any (unitS cd) (by rw [UL.out]; omega) W)
        clear hk
        have hul := UL.out
        go_wp2_with fail
        rw [AN.out]
        generalize hU : unitS cd = U at *
        clear AN hcv UL hls hP
        rcases HP.out with ⟨hp, hcd⟩ | ⟨hp, hcd⟩
        · subst hp hcd
          have T2 : Hid (∀ W, Calls Tryd.prog 10 #[.string ⟨U.toArray⟩] W fun e w' => e = .returned (.int .u32 44507573) ∧ Below W.heap.size W w') := fun W => by
            have h := TT.out W
            rw [← hU, unit_tot0] at h
            rw [← hU]
            exact h
          have CC : Hid (∀ W, BarE W → Calls Tryd.prog 6 #[.int .u32 4250459722] W fun e w' => e = .returned (.string ⟨code1.toArray⟩) ∧ Below W.heap.size W w') := fun W h => code_any 4250459722 (by omega) W h
          clear TT hU HP
          refine (T2.out _).mono ?_
          rintro e w6 ⟨rfl, hb⟩
          replace RD : Hid (∀ j u, (cds4.flatMap CD.cells)[j]? = some u → w6.cell? ⟨g, j, none⟩ = some u) := fun j u h => kept_cell hb (RD.out j u h)
          replace B0 := Lib.hid (below_mono B0.out hb)
          clear hb
          go_wp2_with fail
          refine (T2.out _).mono ?_
          rintro e w7 ⟨rfl, hb⟩
          replace RD : Hid (∀ j u, (cds4.flatMap CD.cells)[j]? = some u → w7.cell? ⟨g, j, none⟩ = some u) := fun j u h => kept_cell hb (RD.out j u h)
          replace B0 := Lib.hid (below_mono B0.out hb)
          clear hb
          go_wp2_with fail
          refine (CC.out _ (BE.out.keep B0.out)).mono ?_
          rintro e w8 ⟨rfl, hb⟩
          replace RD : Hid (∀ j u, (cds4.flatMap CD.cells)[j]? = some u → w8.cell? ⟨g, j, none⟩ = some u) := fun j u h => kept_cell hb (RD.out j u h)
          replace B0 := Lib.hid (below_mono B0.out hb)
          clear hb
          go_wp2
          go_roundw
          case rel => exact ⟨1, code1, .inr ⟨rfl, rfl⟩, rfl, by go_num, RD.out, B0.out⟩
          case measure => simp [RowKit.intOf]
        · subst hp hcd
          have T2 : Hid (∀ W, Calls Tryd.prog 10 #[.string ⟨U.toArray⟩] W fun e w' => e = .returned (.int .u32 4294967295) ∧ Below W.heap.size W w') := fun W => by
            have h := TT.out W
            rw [← hU, unit_tot1] at h
            rw [← hU]
            exact h
          clear TT HP RD
          refine (T2.out _).mono ?_
          rintro e w6 ⟨rfl, hb⟩
          replace B0 := Lib.hid (below_mono B0.out hb)
          clear hb T2
          go_wp2
          go_ret2
          exact ⟨by rw [hU]; rfl, B0.out⟩

end Go.Proofs.YtgkamalgokebgaaDoor

/- Walks: wide.Parse. -/
import Derived.Test.YtmelbahbjdogdaaGreatDoorW1
import Derived.Test.YtmelbahbjdogdaaGreatDoorW11
import Derived.Test.YtmelbahbjdogdaaGreatDoorW10
import Derived.Test.YtmelbahbjdogdaaGreatDoorMathZ
import Derived.Test.YtmelbahbjdogdaaGreatDoorShelf
import Derived.Deep.LoopGhost
import Derived.Lib.OthersKept
import Derived.Shelf.GgClosure.StringsIndexFunc
namespace Go.Proofs.YtmelbahbjdogdaaGreatDoor
open Go.RowKit Go.Lib
attribute [local go_sem ↓] Go.wp_at_zero Go.wp_at_succ
theorem get_of (t : List UInt8) (i : Nat) : (ByteArray.mk t.toArray).get! i = t[i]?.getD 0 := by
  show (t.toArray)[i]! = _
  simp [List.getElem!_eq_getElem?_getD]
  rfl

theorem dec_lo {s : ByteArray} {i : Nat} (h : (s.get! i).toNat < 128) : Utf8.decode s i = ((s.get! i).toNat, 1) := by
  unfold Utf8.decode
  simp only [Nat.add_zero]
  rw [if_pos h]

theorem dec_hi {s : ByteArray} {i : Nat} (h : 128 ≤ (s.get! i).toNat) : 128 ≤ (Utf8.decode s i).1 := by
  unfold Utf8.decode
  simp only [Nat.add_zero]
  rw [if_neg (by omega)]
  have hr : 128 ≤ Utf8.runeError := by decide
  split
  · split
    · simpa using ‹_›
    · exact hr
  · split
    · split
      · rename_i h3
        simp only [Bool.and_eq_true, decide_eq_true_eq] at h3
        have := h3.1
        show 128 ≤ _
        omega
      · exact hr
    · split
      · split
        · rename_i h3
          simp only [Bool.and_eq_true, decide_eq_true_eq] at h3
          have := h3.1
          show 128 ≤ _
          omega
        · exact hr
      · exact hr

/-- What Parse's function value answers: whether a rune is no digit. -/
def notDig (r : Nat) : Bool := decide (r < 48) || decide (57 < r)

theorem idx_dig (t : List UInt8) : ∀ f pos, t.length ≤ pos + f → (idxFuncFrom notDig true ⟨t.toArray⟩ f pos = -1 ↔ Dig (t.drop pos))
  | 0, pos, h => by
    rw [List.drop_of_length_le (by omega)]
    exact ⟨fun _ => dig_nil, fun _ => rfl⟩
  | f + 1, pos, h => by
    have hsz : (ByteArray.mk t.toArray).size = t.length := by simp [ByteArray.size]
    unfold idxFuncFrom
    rw [hsz]
    by_cases hp : pos < t.length
    · rw [if_pos hp]
      have hb : (ByteArray.mk t.toArray).get! pos = t[pos] := by rw [get_of, List.getElem?_eq_getElem hp]; rfl
      rw [List.drop_eq_getElem_cons hp, dig_cons]
      by_cases hlo : t[pos].toNat < 128
      · rw [dec_lo (by rw [hb]; exact hlo), hb]
        by_cases hd : 48 ≤ t[pos].toNat ∧ t[pos].toNat ≤ 57
        · rw [if_neg (by simp [notDig]; omega), idx_dig t f (pos + 1) (by omega)]
          exact ⟨fun k => ⟨hd, k⟩, fun k => k.2⟩
        · rw [if_pos (by simp [notDig]; omega)]
          exact ⟨fun k => by omega, fun k => absurd k.1 hd⟩
      · have h1 := dec_hi (s := ⟨t.toArray⟩) (i := pos) (by rw [hb]; omega)
        rw [if_pos (by simp [notDig]; omega)]
        exact ⟨fun k => by omega, fun k => by have := k.1; omega⟩
    · rw [if_neg hp, List.drop_of_length_le (by omega)]
      exact ⟨fun _ => dig_nil, fun _ => rfl⟩

theorem idx_digB (t : List UInt8) : decide (0 ≤ idxFunc notDig true ⟨t.toArray⟩) = !digB t := by
  have h := idx_dig t t.length 0 (by omega)
  have hr := idxFunc_range notDig true ⟨t.toArray⟩
  have hsz : (ByteArray.mk t.toArray).size = t.length := by simp [ByteArray.size]
  unfold idxFunc at *
  rw [hsz] at *
  rw [List.drop_zero, ← digB_iff] at h
  cases hd : digB t with
  | true => rw [h.2 hd]; rfl
  | false =>
    rw [hd] at h
    simp only [Bool.not_false, decide_eq_true_eq]
    rcases hr with hr | hr
    · exact absurd (h.1 hr) (by simp)
    · exact hr.1

theorem cell_iterAt {w : World} {k : Nat} {s : ByteArray} {pos pos' : Nat} (hk : w.heap[k]? = some (.stringIter s pos)) (a : Addr) : (w.iterAt k s pos').cell? a = w.cell? a := by
  have h2 := iterAt_heap w k s pos pos' hk
  by_cases h : a.block = k
  · unfold World.cell?
    rw [h, hk, h2]
  · exact World.cell?_of_block (iterAt_other w k a.block s pos' h)

theorem frozen_iterAt {w : World} {k : Nat} {s : ByteArray} {pos pos' : Nat} (hk : w.heap[k]? = some (.stringIter s pos)) (a : Addr) : (w.iterAt k s pos').frozen? a = w.frozen? a := by
  have h2 := iterAt_heap w k s pos pos' hk
  by_cases h : a.block = k
  · unfold World.frozen?
    rw [h, hk, h2]
  · exact World.frozen?_of_block (iterAt_other w k a.block s pos' h)

theorem Sl.iterAt {w : World} {k : Nat} {s : ByteArray} {pos pos' : Nat} (hk : w.heap[k]? = some (.stringIter s pos)) {A : Option Addr} {l : List Nat} {c : Nat} (h : Sl w A l c) : Sl (w.iterAt k s pos') A l c := by
  refine ⟨fun hl => ?_, h.lim, h.le, h.len⟩
  obtain ⟨b, o, e, hc⟩ := h.rd hl
  exact ⟨b, o, e, fun i hi => by rw [cell_iterAt hk]; exact hc i hi⟩

theorem Cw.iterAt {w : World} {k : Nat} {s : ByteArray} {pos pos' : Nat} (hk : w.heap[k]? = some (.stringIter s pos)) {g : Nat} {n : Bool} {A : Option Addr} {m c : Nat} (h : Cw w g n A m c) : Cw (w.iterAt k s pos') g n A m c :=
  ⟨by rw [cell_iterAt hk]; exact h.1, by rw [cell_iterAt hk]; exact h.2⟩

theorem Fw.iterAt {w : World} {k : Nat} {s : ByteArray} {pos pos' : Nat} (hk : w.heap[k]? = some (.stringIter s pos)) {g : Nat} (h : Fw w g) : Fw (w.iterAt k s pos') g :=
  ⟨by rw [frozen_iterAt hk]; exact h.1, by rw [frozen_iterAt hk]; exact h.2⟩

theorem notDig_pays (w : World) : PredAt Tryz.prog 132 #[] encR notDig w := fun W r _ => by
  unfold FnGives notDig
  by_cases h1 : r < 48 <;> by_cases h2 : 57 < r
  all_goals
    have z1 : (r : Int) < 48 ↔ r < 48 := by omega
    have z2 : (57 : Int) < (r : Int) ↔ 57 < r := by omega
    go_enter Tryz.func132, Tryz.ntmps132
    go_wp2
    all_goals first | (exfalso; omega) | (go_ret; exact ⟨by simp [h1, h2], 0, rfl⟩)

set_option maxRecDepth 100000 in
set_option maxHeartbeats 4000000 in
theorem wparse_good (t : List UInt8) (ss : List UInt8) (w : World) (ht : trimPrefix ss [45] = t) (hlen : ss.length ≤ 3000) (hne : t ≠ []) (h0 : t.head? = some 48 → ss = [48]) (hd : digB t = true) :
    Calls Tryz.prog 99 #[.string ⟨ss.toArray⟩] w (WRes (outN (hasPrefix ss [45]) (dv t)) w) := by
  have htl : t.length ≤ 3000 := by
    rw [← ht]
    unfold trimPrefix
    split
    · rw [List.length_drop]; omega
    · exact hlen
  have hcf := fun W => Tryz.strings_ContainsFunc 132 #[] (enters_of Tryz.func132 (by kernel_rfl) rfl) notDig ⟨t.toArray⟩ W (notDig_pays W)
  have hcp := fun W => Tryz.strings_CutPrefix ⟨ss.toArray⟩ ⟨#[45]⟩ W
  have e1 : (ByteArray.mk ss.toArray).data.toList = ss := rfl
  have e2 : (ByteArray.mk #[45]).data.toList = [45] := rfl
  rw [idx_digB, hd] at hcf
  simp only [ht] at hcp
  have Hcf := Lib.hid hcf
  have Hcp := Lib.hid hcp
  have Hd := Lib.hid (digB_iff.1 hd)
  have Hh0 := Lib.hid h0
  generalize hasPrefix ss [45] = neg at *
  clear ht hcf hcp hd h0 e1 e2
  obtain ⟨b, t2, rfl⟩ : ∃ b t2, t = b :: t2 := by
    rcases t with _ | ⟨b, t2⟩
    · exact absurd rfl hne
    · exact ⟨b, t2, rfl⟩
  clear hne
  have Hdt := Lib.hid htl
  have hget : (ByteArray.mk (b :: t2).toArray)[0]'(by simp [ByteArray.size]) = b := rfl
  have hsz : (ByteArray.mk (b :: t2).toArray).size = t2.length + 1 := by simp [ByteArray.size]
  simp only [List.length_cons] at htl
  by_cases hb48 : b.toNat = 48
  · have hss : ss = [48] := Hh0.out (by rw [show b = 48 from UInt8.toNat_inj.1 hb48]; rfl)
    have hbz : ((b.toNat : Int) == 48) = true := by simp; omega
    have hsb : (ss == [48]) = true := by rw [hss]; rfl
    have Hss := Lib.hid hss
    clear hss
    go_enter Tryz.func99, Tryz.ntmps99
    go_wp2_with fail
    refine (Hcp.out _).mono ?_
    rintro e w1 ⟨rfl, rfl⟩
    go_wp2_with fail
    refine (Hcf.out _).mono ?_
    rintro e w2 ⟨rfl, hb⟩
    have R : Hid (Cw w2 w.heap.size false none 0 0) := ⟨kept_cell hb (by go_simp), kept_cell hb (by go_simp)⟩
    have F : Hid (Fw w2 w.heap.size) := ⟨(hb.frozen (by simp)).trans (by go_simp), (hb.frozen (by simp)).trans (by go_simp)⟩
    have B : Hid (Below w.heap.size w w2) := below_mono (blw1 _ _) hb
    clear hb Hcf Hcp
    go_wp2
    have I0 : Hid ((w2.iter ⟨(b :: t2).toArray⟩ 0).heap[w2.heap.size]? = some (.stringIter ⟨(b :: t2).toArray⟩ 0)) := World.iter_heap w2 _ 0
    have R0 : Hid (Cw (w2.iter ⟨(b :: t2).toArray⟩ 0) w.heap.size false none 0 0) := Cw.keep R.out (blw1 _ (.stringIter _ 0))
    have F0 : Hid (Fw (w2.iter ⟨(b :: t2).toArray⟩ 0) w.heap.size) := Fw.keep F.out R.out (blw1 _ (.stringIter _ 0))
    have B0 : Hid (Below w.heap.size w (w2.iter ⟨(b :: t2).toArray⟩ 0)) := below_mono B.out (blw1 _ (.stringIter _ 0))
    have hlt2 : w.heap.size < w2.heap.size := lt_of_cell R.out.1
    have Hsz := Lib.hid hsz
    clear R F B hget hsz hbz hb48
    generalize b :: t2 = T at *
    have hTl := Hdt.out
    go_loopg [6, 8] T.length (fun gf s6 _ wx => ∃ (pos : Nat) (A6 : Option Addr) (c6 : Nat), pos ≤ T.length ∧ gf + pos = T.length ∧ s6 = .slice A6 (limbs (dv (T.take pos))).length c6 ∧ Sl wx A6 (limbs (dv (T.take pos))) c6 ∧ wx.heap[w2.heap.size]? = some (.stringIter ⟨T.toArray⟩ pos) ∧ Cw wx w.heap.size false none 0 0 ∧ Fw wx w.heap.size ∧ Below w.heap.size w wx)
    case atStart => exact ⟨0, none, 0, by omega, by omega, rfl, Sl.nil _ _ _, I0.out, R0.out, F0.out, B0.out⟩
    case round =>
      clear I0 R0 F0 B0
      obtain ⟨pos, A6, c6, hpos, hgf, rfl, s6, hit, r, f, b⟩ := hrel
      have S6 := Lib.hid s6
      have R := Lib.hid r
      have F := Lib.hid f
      have B := Lib.hid b
      clear s6 r f b
      have hsz : (ByteArray.mk T.toArray).size = T.length := by simp [ByteArray.size]
      have Hsz2 := Lib.hid hsz
      by_cases hps : pos < T.length
      · have hgp : (ByteArray.mk T.toArray)[pos]'(by rw [hsz]; exact hps) = T[pos] := rfl
        have hdg := Hd.out T[pos] (List.getElem_mem hps)
        have Hdt2 : Hid (dv (T.take (pos + 1)) = 10 * dv (T.take pos) + (T[pos].toNat - 48)) := by
          unfold Hid
          rw [← List.take_append_getElem hps, dv_snoc]
        have hnx : ∀ ty, (Instr.next (.pointer (some ⟨w2.heap.size, 0, none⟩)) true ty).run Tryz.prog wr = _ := fun ty => run_next_ascii_at wr w2.heap.size ⟨T.toArray⟩ pos ty hit (by rw [hsz]; exact hps) (by rw [hgp]; omega)
        rw [hgp] at hnx
        have hll : (limbs (dv (T.take pos))).length ≤ 400 := dv_limbs (fun c hc => Hd.out c (List.mem_of_mem_take hc)) (by rw [List.length_take]; omega)
        have hll2 : (limbs (dv (T.take (pos + 1)))).length ≤ 400 := dv_limbs (fun c hc => Hd.out c (List.mem_of_mem_take hc)) (by rw [List.length_take]; omega)
        have Hv := Lib.hid (val_limbs (dv (T.take pos)))
        have I2 := Lib.hid (iterAt_heap wr w2.heap.size ⟨T.toArray⟩ pos (pos + 1) hit)
        have S2 := Lib.hid (Sl.iterAt (pos' := pos + 1) hit S6.out)
        have R2 := Lib.hid (Cw.iterAt (pos' := pos + 1) hit R.out)
        have F2 := Lib.hid (Fw.iterAt (pos' := pos + 1) hit F.out)
        have B2 := Lib.hid (below_iterAt B.out (k := w2.heap.size) (by omega) ⟨T.toArray⟩ (pos + 1))
        clear hit S6 R F B hsz hgp
        generalize wr.iterAt w2.heap.size ⟨T.toArray⟩ (pos + 1) = W at *
        generalize T[pos] = bb at *
        generalize hlc : limbs (dv (T.take pos)) = lc at *
        have Hlc := Lib.hid hlc
        clear hlc
        obtain ⟨x, hx⟩ : ∃ x, x = bb.toNat - 48 := ⟨_, rfl⟩
        have hxz : (bb.toNat : Int) - 48 = (x : Int) := by omega
        have hx9 : x ≤ 9 := by omega
        have Hx := Lib.hid hx
        clear hx
        go_wp2_with fail
        refine (times_any A6 (some ⟨W.heap.size, 0, none⟩) lc [10] c6 1 _ (S2.out.alloc _) ⟨Rd.one _ _ _, lim_one (by omega), Nat.le_refl _, by simp⟩ (by omega) (by simp)).mono ?_
        rintro e w5 ⟨A7, c7, x7, rfl, hs7, hv7, hn7, hb⟩
        have S7 := Lib.hid hs7
        have hn7' : x7.length ≤ 401 := by simp at hn7; omega
        have V7 : Hid (val x7 = 10 * dv (T.take pos)) := by unfold Hid; rw [hv7, Hv.out]; simp [val]; omega
        have I5 := Lib.hid ((hb.block w2.heap.size (by have h := (Array.getElem?_eq_some_iff.1 I2.out).1; simp; omega)).trans ((blw1 W _).block w2.heap.size (Array.getElem?_eq_some_iff.1 I2.out).1 |>.trans I2.out))
        have R5 := Lib.hid (Cw.keep (Cw.keep R2.out (blw1 _ _)) hb)
        have F5 := Lib.hid (Fw.keep (Fw.alloc F2.out R2.out _) (Cw.keep R2.out (blw1 _ _)) hb)
        have B5 := Lib.hid (below_mono (below_mono B2.out (blw1 _ _)) hb)
        clear hb hs7 hv7 hn7 I2 S2 R2 F2 B2
        go_wp2_with fail
        refine (plus_any A7 (some ⟨w5.heap.size, 0, none⟩) x7 [x] c7 1 _ (S7.out.alloc _) ⟨Rd.onev _ rfl _, lim_one (by omega), Nat.le_refl _, by simp⟩ (by omega) (by simp)).mono ?_
        rintro e w6 ⟨A8, c8, x8, rfl, hs8, hv8, hn8, hb⟩
        have S8 := Lib.hid hs8
        have V8 : Hid (val x8 = dv (T.take (pos + 1))) := by unfold Hid; rw [hv8, V7.out, Hdt2.out, ← Hx.out]; simp [val]
        have I6 := Lib.hid ((hb.block w2.heap.size (by have h := (Array.getElem?_eq_some_iff.1 I5.out).1; simp; omega)).trans ((blw1 w5 _).block w2.heap.size (Array.getElem?_eq_some_iff.1 I5.out).1 |>.trans I5.out))
        have R6 := Lib.hid (Cw.keep (Cw.keep R5.out (blw1 _ _)) hb)
        have F6 := Lib.hid (Fw.keep (Fw.alloc F5.out R5.out _) (Cw.keep R5.out (blw1 _ _)) hb)
        have B6 := Lib.hid (below_mono (below_mono B5.out (blw1 _ _)) hb)
        clear hb hs8 hv8 hn8 I5 R5 F5 B5 S7 V7
        have htr := trim_any A8 x8 c8 w6 S8.out
        rw [V8.out] at htr
        have T8 : Hid (Sl w6 A8 (limbs (dv (T.take (pos + 1)))) c8) := by have h := S8.out.trim; rw [V8.out] at h; exact h
        clear S8 V8
        generalize hl2 : limbs (dv (T.take (pos + 1))) = l2 at *
        have Hl2 := Lib.hid hl2
        clear hl2
        go_wp2_with fail
        refine htr.mono ?_
        rintro e w7 ⟨rfl, rfl⟩
        clear htr
        go_wp2
        go_roundg (gk - 1)
        case measure => omega
        case rel => exact ⟨pos + 1, A8, c8, hps, by omega, by rw [Hl2.out], by rw [Hl2.out]; exact T8.out, I6.out, R6.out, F6.out, B6.out⟩
      · obtain rfl : pos = T.length := by omega
        have hnx : ∀ ty, (Instr.next (.pointer (some ⟨w2.heap.size, 0, none⟩)) true ty).run Tryz.prog wr = _ := fun ty => run_next_end_at wr w2.heap.size ⟨T.toArray⟩ T.length ty hit (by rw [hsz]; omega)
        have Htt : Hid (T.take T.length = T) := List.take_of_length_le (Nat.le_refl _)
        rw [Htt.out] at S6
        rw [Htt.out]
        clear hsz
        go_wp2_with fail
        refine (made_any neg A6 (limbs (dv T)) c6 _ S6.out).mono ?_
        rw [val_limbs]
        generalize outN neg (dv T) = r at *
        rintro e w8 ⟨A9, c9, rfl, hs9, hb⟩
        have S9 := Lib.hid hs9
        obtain ⟨r0, r1⟩ := R.out.keep hb
        obtain ⟨f0, f1⟩ := Fw.keep F.out R.out hb
        have B9 := Lib.hid (below_mono B.out hb)
        clear hb hs9
        go_wp2
        exact bodyPost_ret (v := .tuple #[.agg #[.bool r.1.1, .slice A9 r.1.2.length c9], .int .i64 r.2]) (by simp [results, Tryz.results99, go_sem, r0, r1]) rfl (wres_store S9.out ⟨r0, r1⟩ B9.out (Nat.le_refl _) _ _)
  · have hbz : ((b.toNat : Int) == 48) = false := by simp; omega
    go_enter Tryz.func99, Tryz.ntmps99
    go_wp2_with fail
    refine (Hcp.out _).mono ?_
    rintro e w1 ⟨rfl, rfl⟩
    go_wp2_with fail
    refine (Hcf.out _).mono ?_
    rintro e w2 ⟨rfl, hb⟩
    have R : Hid (Cw w2 w.heap.size false none 0 0) := ⟨kept_cell hb (by go_simp), kept_cell hb (by go_simp)⟩
    have F : Hid (Fw w2 w.heap.size) := ⟨(hb.frozen (by simp)).trans (by go_simp), (hb.frozen (by simp)).trans (by go_simp)⟩
    have B : Hid (Below w.heap.size w w2) := below_mono (blw1 _ _) hb
    clear hb Hcf Hcp
    go_wp2
    have I0 : Hid ((w2.iter ⟨(b :: t2).toArray⟩ 0).heap[w2.heap.size]? = some (.stringIter ⟨(b :: t2).toArray⟩ 0)) := World.iter_heap w2 _ 0
    have R0 : Hid (Cw (w2.iter ⟨(b :: t2).toArray⟩ 0) w.heap.size false none 0 0) := Cw.keep R.out (blw1 _ (.stringIter _ 0))
    have F0 : Hid (Fw (w2.iter ⟨(b :: t2).toArray⟩ 0) w.heap.size) := Fw.keep F.out R.out (blw1 _ (.stringIter _ 0))
    have B0 : Hid (Below w.heap.size w (w2.iter ⟨(b :: t2).toArray⟩ 0)) := below_mono B.out (blw1 _ (.stringIter _ 0))
    have hlt2 : w.heap.size < w2.heap.size := lt_of_cell R.out.1
    have Hsz := Lib.hid hsz
    clear R F B hget hsz hbz hb48
    generalize b :: t2 = T at *
    have hTl := Hdt.out
    go_loopg [6, 8] T.length (fun gf s6 _ wx => ∃ (pos : Nat) (A6 : Option Addr) (c6 : Nat), pos ≤ T.length ∧ gf + pos = T.length ∧ s6 = .slice A6 (limbs (dv (T.take pos))).length c6 ∧ Sl wx A6 (limbs (dv (T.take pos))) c6 ∧ wx.heap[w2.heap.size]? = some (.stringIter ⟨T.toArray⟩ pos) ∧ Cw wx w.heap.size false none 0 0 ∧ Fw wx w.heap.size ∧ Below w.heap.size w wx)
    case atStart => exact ⟨0, none, 0, by omega, by omega, rfl, Sl.nil _ _ _, I0.out, R0.out, F0.out, B0.out⟩
    case round =>
      clear I0 R0 F0 B0
      obtain ⟨pos, A6, c6, hpos, hgf, rfl, s6, hit, r, f, b⟩ := hrel
      have S6 := Lib.hid s6
      have R := Lib.hid r
      have F := Lib.hid f
      have B := Lib.hid b
      clear s6 r f b
      have hsz : (ByteArray.mk T.toArray).size = T.length := by simp [ByteArray.size]
      have Hsz2 := Lib.hid hsz
      by_cases hps : pos < T.length
      · have hgp : (ByteArray.mk T.toArray)[pos]'(by rw [hsz]; exact hps) = T[pos] := rfl
        have hdg := Hd.out T[pos] (List.getElem_mem hps)
        have Hdt2 : Hid (dv (T.take (pos + 1)) = 10 * dv (T.take pos) + (T[pos].toNat - 48)) := by
          unfold Hid
          rw [← List.take_append_getElem hps, dv_snoc]
        have hnx : ∀ ty, (Instr.next (.pointer (some ⟨w2.heap.size, 0, none⟩)) true ty).run Tryz.prog wr = _ := fun ty => run_next_ascii_at wr w2.heap.size ⟨T.toArray⟩ pos ty hit (by rw [hsz]; exact hps) (by rw [hgp]; omega)
        rw [hgp] at hnx
        have hll : (limbs (dv (T.take pos))).length ≤ 400 := dv_limbs (fun c hc => Hd.out c (List.mem_of_mem_take hc)) (by rw [List.length_take]; omega)
        have hll2 : (limbs (dv (T.take (pos + 1)))).length ≤ 400 := dv_limbs (fun c hc => Hd.out c (List.mem_of_mem_take hc)) (by rw [List.length_take]; omega)
        have Hv := Lib.hid (val_limbs (dv (T.take pos)))
        have I2 := Lib.hid (iterAt_heap wr w2.heap.size ⟨T.toArray⟩ pos (pos + 1) hit)
        have S2 := Lib.hid (Sl.iterAt (pos' := pos + 1) hit S6.out)
        have R2 := Lib.hid (Cw.iterAt (pos' := pos + 1) hit R.out)
        have F2 := Lib.hid (Fw.iterAt (pos' := pos + 1) hit F.out)
        have B2 := Lib.hid (below_iterAt B.out (k := w2.heap.size) (by omega) ⟨T.toArray⟩ (pos + 1))
        clear hit S6 R F B hsz hgp
        generalize wr.iterAt w2.heap.size ⟨T.toArray⟩ (pos + 1) = W at *
        generalize T[pos] = bb at *
        generalize hlc : limbs (dv (T.take pos)) = lc at *
        have Hlc := Lib.hid hlc
        clear hlc
        obtain ⟨x, hx⟩ : ∃ x, x = bb.toNat - 48 := ⟨_, rfl⟩
        have hxz : (bb.toNat : Int) - 48 = (x : Int) := by omega
        have hx9 : x ≤ 9 := by omega
        have Hx := Lib.hid hx
        clear hx
        go_wp2_with fail
        refine (times_any A6 (some ⟨W.heap.size, 0, none⟩) lc [10] c6 1 _ (S2.out.alloc _) ⟨Rd.one _ _ _, lim_one (by omega), Nat.le_refl _, by simp⟩ (by omega) (by simp)).mono ?_
        rintro e w5 ⟨A7, c7, x7, rfl, hs7, hv7, hn7, hb⟩
        have S7 := Lib.hid hs7
        have hn7' : x7.length ≤ 401 := by simp at hn7; omega
        have V7 : Hid (val x7 = 10 * dv (T.take pos)) := by unfold Hid; rw [hv7, Hv.out]; simp [val]; omega
        have I5 := Lib.hid ((hb.block w2.heap.size (by have h := (Array.getElem?_eq_some_iff.1 I2.out).1; simp; omega)).trans ((blw1 W _).block w2.heap.size (Array.getElem?_eq_some_iff.1 I2.out).1 |>.trans I2.out))
        have R5 := Lib.hid (Cw.keep (Cw.keep R2.out (blw1 _ _)) hb)
        have F5 := Lib.hid (Fw.keep (Fw.alloc F2.out R2.out _) (Cw.keep R2.out (blw1 _ _)) hb)
        have B5 := Lib.hid (below_mono (below_mono B2.out (blw1 _ _)) hb)
        clear hb hs7 hv7 hn7 I2 S2 R2 F2 B2
        go_wp2_with fail
        refine (plus_any A7 (some ⟨w5.heap.size, 0, none⟩) x7 [x] c7 1 _ (S7.out.alloc _) ⟨Rd.onev _ rfl _, lim_one (by omega), Nat.le_refl _, by simp⟩ (by omega) (by simp)).mono ?_
        rintro e w6 ⟨A8, c8, x8, rfl, hs8, hv8, hn8, hb⟩
        have S8 := Lib.hid hs8
        have V8 : Hid (val x8 = dv (T.take (pos + 1))) := by unfold Hid; rw [hv8, V7.out, Hdt2.out, ← Hx.out]; simp [val]
        have I6 := Lib.hid ((hb.block w2.heap.size (by have h := (Array.getElem?_eq_some_iff.1 I5.out).1; simp; omega)).trans ((blw1 w5 _).block w2.heap.size (Array.getElem?_eq_some_iff.1 I5.out).1 |>.trans I5.out))
        have R6 := Lib.hid (Cw.keep (Cw.keep R5.out (blw1 _ _)) hb)
        have F6 := Lib.hid (Fw.keep (Fw.alloc F5.out R5.out _) (Cw.keep R5.out (blw1 _ _)) hb)
        have B6 := Lib.hid (below_mono (below_mono B5.out (blw1 _ _)) hb)
        clear hb hs8 hv8 hn8 I5 R5 F5 B5 S7 V7
        have htr := trim_any A8 x8 c8 w6 S8.out
        rw [V8.out] at htr
        have T8 : Hid (Sl w6 A8 (limbs (dv (T.take (pos + 1)))) c8) := by have h := S8.out.trim; rw [V8.out] at h; exact h
        clear S8 V8
        generalize hl2 : limbs (dv (T.take (pos + 1))) = l2 at *
        have Hl2 := Lib.hid hl2
        clear hl2
        go_wp2_with fail
        refine htr.mono ?_
        rintro e w7 ⟨rfl, rfl⟩
        clear htr
        go_wp2
        go_roundg (gk - 1)
        case measure => omega
        case rel => exact ⟨pos + 1, A8, c8, hps, by omega, by rw [Hl2.out], by rw [Hl2.out]; exact T8.out, I6.out, R6.out, F6.out, B6.out⟩
      · obtain rfl : pos = T.length := by omega
        have hnx : ∀ ty, (Instr.next (.pointer (some ⟨w2.heap.size, 0, none⟩)) true ty).run Tryz.prog wr = _ := fun ty => run_next_end_at wr w2.heap.size ⟨T.toArray⟩ T.length ty hit (by rw [hsz]; omega)
        have Htt : Hid (T.take T.length = T) := List.take_of_length_le (Nat.le_refl _)
        rw [Htt.out] at S6
        rw [Htt.out]
        clear hsz
        go_wp2_with fail
        refine (made_any neg A6 (limbs (dv T)) c6 _ S6.out).mono ?_
        rw [val_limbs]
        generalize outN neg (dv T) = r at *
        rintro e w8 ⟨A9, c9, rfl, hs9, hb⟩
        have S9 := Lib.hid hs9
        obtain ⟨r0, r1⟩ := R.out.keep hb
        obtain ⟨f0, f1⟩ := Fw.keep F.out R.out hb
        have B9 := Lib.hid (below_mono B.out hb)
        clear hb hs9
        go_wp2
        exact bodyPost_ret (v := .tuple #[.agg #[.bool r.1.1, .slice A9 r.1.2.length c9], .int .i64 r.2]) (by simp [results, Tryz.results99, go_sem, r0, r1]) rfl (wres_store S9.out ⟨r0, r1⟩ B9.out (Nat.le_refl _) _ _)

set_option maxRecDepth 100000 in
set_option maxHeartbeats 4000000 in
theorem wparse_empty (ss : List UInt8) (w : World) (ht : trimPrefix ss [45] = []) :
    Calls Tryz.prog 99 #[.string ⟨ss.toArray⟩] w (WRes ((false, []), 12) w) := by
  have hcp := fun W => Tryz.strings_CutPrefix ⟨ss.toArray⟩ ⟨#[45]⟩ W
  simp only [ht] at hcp
  have Hcp := Lib.hid hcp
  clear hcp ht
  go_enter Tryz.func99, Tryz.ntmps99
  go_wp2_with fail
  refine (Hcp.out _).mono ?_
  rintro e w1 ⟨rfl, rfl⟩
  go_wp2
  exact bodyPost_ret (v := .tuple #[.agg #[.bool false, .slice none 0 0], .int .i64 12]) (by simp [results, Tryz.results99, go_sem]) rfl ⟨none, 0, rfl, Sl.nil _ _ _, blw1 _ _⟩

set_option maxRecDepth 100000 in
set_option maxHeartbeats 4000000 in
theorem wparse_zero (t2 ss : List UInt8) (w : World) (ht : trimPrefix ss [45] = 48 :: t2) (hs : ss ≠ [48]) :
    Calls Tryz.prog 99 #[.string ⟨ss.toArray⟩] w (WRes ((false, []), 12) w) := by
  have hcp := fun W => Tryz.strings_CutPrefix ⟨ss.toArray⟩ ⟨#[45]⟩ W
  simp only [ht] at hcp
  have Hcp := Lib.hid hcp
  have hget : (ByteArray.mk (48 :: t2).toArray)[0]'(by simp [ByteArray.size]) = 48 := rfl
  have hsz : (ByteArray.mk (48 :: t2).toArray).size = t2.length + 1 := by simp [ByteArray.size]
  have hsb : (ss == [48]) = false := by simpa using hs
  have hz : (48 : UInt8).toNat = 48 := rfl
  clear hcp ht
  go_enter Tryz.func99, Tryz.ntmps99
  go_wp2_with fail
  refine (Hcp.out _).mono ?_
  rintro e w1 ⟨rfl, rfl⟩
  go_wp2
  exact bodyPost_ret (v := .tuple #[.agg #[.bool false, .slice none 0 0], .int .i64 12]) (by simp [results, Tryz.results99, go_sem]) rfl ⟨none, 0, rfl, Sl.nil _ _ _, blw1 _ _⟩

set_option maxRecDepth 100000 in
set_option maxHeartbeats 4000000 in
theorem wparse_form (b : UInt8) (t2 ss : List UInt8) (w : World) (ht : trimPrefix ss [45] = b :: t2) (h0 : b.toNat = 48 → ss = [48]) (hd : digB (b :: t2) = false) :
    Calls Tryz.prog 99 #[.string ⟨ss.toArray⟩] w (WRes ((false, []), 12) w) := by
  have hcf := fun W => Tryz.strings_ContainsFunc 132 #[] (enters_of Tryz.func132 (by kernel_rfl) rfl) notDig ⟨(b :: t2).toArray⟩ W (notDig_pays W)
  have hcp := fun W => Tryz.strings_CutPrefix ⟨ss.toArray⟩ ⟨#[45]⟩ W
  rw [idx_digB, hd] at hcf
  simp only [ht] at hcp
  have Hcf := Lib.hid hcf
  have Hcp := Lib.hid hcp
  have Hh0 := Lib.hid h0
  clear ht hcf hcp hd h0
  have hget : (ByteArray.mk (b :: t2).toArray)[0]'(by simp [ByteArray.size]) = b := rfl
  have hsz : (ByteArray.mk (b :: t2).toArray).size = t2.length + 1 := by simp [ByteArray.size]
  by_cases hb48 : b.toNat = 48
  · have hss : ss = [48] := Hh0.out hb48
    have hbz : ((b.toNat : Int) == 48) = true := by simp; omega
    have hsb : (ss == [48]) = true := by rw [hss]; rfl
    clear hss Hh0
    go_enter Tryz.func99, Tryz.ntmps99
    go_wp2_with fail
    refine (Hcp.out _).mono ?_
    rintro e w1 ⟨rfl, rfl⟩
    go_wp2_with fail
    refine (Hcf.out _).mono ?_
    rintro e w2 ⟨rfl, hb⟩
    have R : Hid (Cw w2 w.heap.size false none 0 0) := ⟨kept_cell hb (by go_simp), kept_cell hb (by go_simp)⟩
    have F : Hid (Fw w2 w.heap.size) := ⟨(hb.frozen (by simp)).trans (by go_simp), (hb.frozen (by simp)).trans (by go_simp)⟩
    have B : Hid (Below w.heap.size w w2) := below_mono (blw1 _ _) hb
    have hlt2 : w.heap.size < w2.heap.size := lt_of_cell R.out.1
    clear hb Hcf Hcp
    obtain ⟨f0, f1⟩ := F.out
    obtain ⟨r0, r1⟩ := R.out
    go_wp2
    exact bodyPost_ret (v := .tuple #[.agg #[.bool false, .slice none 0 0], .int .i64 12]) (by simp [results, Tryz.results99, go_sem, r0, r1]) rfl (wres_store (r := ((false, []), 12)) (Sl.nil _ none 0) ⟨r0, r1⟩ B.out (Nat.le_refl _) _ _)
  · have hbz : ((b.toNat : Int) == 48) = false := by simp; omega
    clear Hh0
    go_enter Tryz.func99, Tryz.ntmps99
    go_wp2_with fail
    refine (Hcp.out _).mono ?_
    rintro e w1 ⟨rfl, rfl⟩
    go_wp2_with fail
    refine (Hcf.out _).mono ?_
    rintro e w2 ⟨rfl, hb⟩
    have R : Hid (Cw w2 w.heap.size false none 0 0) := ⟨kept_cell hb (by go_simp), kept_cell hb (by go_simp)⟩
    have F : Hid (Fw w2 w.heap.size) := ⟨(hb.frozen (by simp)).trans (by go_simp), (hb.frozen (by simp)).trans (by go_simp)⟩
    have B : Hid (Below w.heap.size w w2) := below_mono (blw1 _ _) hb
    have hlt2 : w.heap.size < w2.heap.size := lt_of_cell R.out.1
    clear hb Hcf Hcp
    obtain ⟨f0, f1⟩ := F.out
    obtain ⟨r0, r1⟩ := R.out
    go_wp2
    exact bodyPost_ret (v := .tuple #[.agg #[.bool false, .slice none 0 0], .int .i64 12]) (by simp [results, Tryz.results99, go_sem, r0, r1]) rfl (wres_store (r := ((false, []), 12)) (Sl.nil _ none 0) ⟨r0, r1⟩ B.out (Nat.le_refl _) _ _)

theorem wparse_any (ss : List UInt8) (w : World) (hlen : ss.length ≤ 3000) :
    Calls Tryz.prog 99 #[.string ⟨ss.toArray⟩] w (WRes (parseS ss) w) := by
  unfold parseS parOk
  rcases ht : trimPrefix ss [45] with _ | ⟨b, t2⟩
  · exact wparse_empty ss w ht
  · by_cases hz : b = 48 ∧ ss ≠ [48]
    · obtain ⟨rfl, hs⟩ := hz
      rw [if_neg (by simp [hs])]
      exact wparse_zero t2 ss w ht hs
    · have h0 : b.toNat = 48 → ss = [48] := fun h => by
        have hb : b = 48 := UInt8.toNat_inj.1 h
        by_cases h2 : ss = [48]
        · exact h2
        · exact absurd ⟨hb, h2⟩ hz
      cases hd : digB (b :: t2) with
      | false =>
        rw [if_neg (by simp)]
        exact wparse_form b t2 ss w ht h0 hd
      | true =>
        rw [if_pos (by
          simp only [List.isEmpty_cons, Bool.not_false, List.head?_cons, Bool.true_and, Bool.and_true]
          by_cases hb : b = 48
          · rw [h0 (by rw [hb]; rfl)]; simp
          · have : (some b == some (48 : UInt8)) = false := by simpa using hb
            rw [this]; rfl)]
        have := wparse_good (b :: t2) ss w ht hlen (by simp) (fun h => h0 (by simp at h; rw [h]; rfl)) hd
        exact this

end Go.Proofs.YtmelbahbjdogdaaGreatDoor

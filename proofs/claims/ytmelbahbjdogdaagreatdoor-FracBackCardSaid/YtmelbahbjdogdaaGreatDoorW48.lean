/- Walks: wide.Text. -/
import Derived.Test.YtmelbahbjdogdaaGreatDoorW2
import Derived.Test.YtmelbahbjdogdaaGreatDoorW26
import Derived.Test.YtmelbahbjdogdaaGreatDoorMathZ
import Derived.Test.YtmelbahbjdogdaaGreatDoorMemB
import Derived.Test.YtmelbahbjdogdaaGreatDoorShelf
import Derived.Deep.LoopGhost
namespace Go.Proofs.YtmelbahbjdogdaaGreatDoor
open Go.RowKit
attribute [local go_sem ↓] Go.wp_at_zero Go.wp_at_succ
/-- What a call hands back that makes a text and an error. -/
def TRes (r : List UInt8 × Int) (w : World) : Ending → World → Prop := fun e w' => e = .returned (.tuple #[.string ⟨r.1.toArray⟩, .int .i64 r.2]) ∧ Below w.heap.size w w'

theorem info8 : (Tryz.prog.info? 5).map (fun i => (i.zero, i.size, i.bytes)) = some (some (.int .u8 0), 1, 1) := by kernel_rfl

theorem dig_len_le {a e : Nat} (hv : 10 ^ a < 2 ^ e) (he : e ≤ 131072) : a ≤ 131072 := by
  rcases Nat.lt_or_ge 131072 a with h | h
  · have h1 : 2 ^ e ≤ 2 ^ a := Nat.pow_le_pow_right (by omega) (by omega)
    have h2 : 2 ^ a ≤ 10 ^ a := Nat.pow_le_pow_left (by omega) a
    omega
  · exact h

theorem dig_one (x : Nat) : Dig [dg x] := by
  intro c hc
  rw [List.mem_singleton] at hc
  subst hc
  rw [dg_toNat]
  omega

theorem text_lt {j x : Nat} (hj : j < 9) (hx : x < 10 ^ (9 - j)) : x / 10 < 10 ^ (9 - (j + 1)) := by
  obtain ⟨m, hm⟩ : ∃ m, 9 - j = m + 1 := ⟨8 - j, by omega⟩
  rw [hm, Nat.pow_succ] at hx
  rw [show 9 - (j + 1) = m by omega]
  omega

theorem text_step {j x q v : Nat} {D : List UInt8} (hj : j < 9) (h : dl D + 10 ^ D.length * (x + 10 ^ (9 - j) * q) = v) :
    dl (D ++ [dg x]) + 10 ^ (D ++ [dg x]).length * (x / 10 + 10 ^ (9 - (j + 1)) * q) = v := by
  obtain ⟨m, hm⟩ : ∃ m, 9 - j = m + 1 := ⟨8 - j, by omega⟩
  rw [hm, Nat.pow_succ] at h
  rw [show 9 - (j + 1) = m by omega, dl_snoc, List.length_append, List.length_singleton, Nat.pow_succ, ← h]
  generalize 10 ^ D.length = P
  generalize 10 ^ m = R
  have h1 : x = x % 10 + 10 * (x / 10) := by omega
  conv => rhs; rw [h1]
  generalize x % 10 = a
  generalize x / 10 = b
  have e1 : P * 10 * (b + R * q) = P * (10 * b + R * 10 * q) := by
    rw [Nat.mul_assoc]
    congr 1
    rw [Nat.mul_add, Nat.mul_comm R 10, Nat.mul_assoc]
  rw [e1, Nat.add_assoc, ← Nat.mul_add]
  congr 2
  omega

theorem app_belowB2 {w wr w1 : World} {base : Nat} {e : TypeId} {v : Value} {o : List UInt8} {obj : Obj} (hb : Below base w wr) (ho : Ob wr base e v o) (hg : (wr.alloc obj).grownBy w1 v.ownBlock) (hle : base ≤ wr.heap.size) : Below base w w1 :=
  (hb.alloc hle obj).grown hg (by simp; omega) ho.own

/-- A slice of limbs that lies apart from a row. -/
def FarS (A : Option Addr) (l : List Nat) (v : Value) : Prop := 0 < l.length → ∀ ad k, A = some ad → v.ownBlock = some k → ad.block ≠ k

theorem farS_new {w : World} {e : TypeId} {base : Nat} {v : Value} {D : List UInt8} {A : Option Addr} {l : List Nat} (ho : Ob w base e v D) (hn : ∀ ad, A = some ad → w.heap.size ≤ ad.block) : FarS A l v := by
  intro _ ad k h1 h2 h3
  have h4 := hn ad h1
  have h5 := (World.ownsRow.lt ho k h2).2
  omega

theorem farS_sl {w w1 : World} {A : Option Addr} {v : Value} {l : List Nat} {c : Nat} {obj : Obj} (hs : Sl w A l c) (hf : FarS A l v) (hg : (w.alloc obj).grownBy w1 v.ownBlock) : Sl w1 A l c := by
  refine ⟨fun hl => ?_, hs.lim, hs.le, hs.len⟩
  obtain ⟨b, o, e, hc⟩ := (hs.alloc obj).rd hl
  refine ⟨b, o, e, fun i hi => ?_⟩
  have h1 := hc i hi
  have h2 := lt_of_cell h1
  have hne : some b ≠ v.ownBlock := fun h => hf hl _ b e h.symm rfl
  rw [World.cell?_of_block (hg.block b h2 hne)]
  exact h1

theorem farS_grow {w : World} {A A2 : Option Addr} {v : Value} {l : List Nat} {c n2 c2 : Nat} {obj : Obj} (hs : Sl w A l c) (hf : FarS A l v)
    (hat : (Value.slice A2 n2 c2).ownBlock = v.ownBlock ∨ (Value.slice A2 n2 c2).ownBlock = some (w.alloc obj).heap.size) : FarS A l (.slice A2 n2 c2) := by
  intro hl ad k h1 h2 h3
  rcases hat with h | h
  · exact hf hl ad k h1 (h.symm.trans h2) h3
  · obtain ⟨b, o, e, hc⟩ := hs.rd hl
    have h4 := lt_of_cell (hc 0 hl)
    rw [h] at h2
    rw [h1] at e
    cases e
    cases h2
    simp at h3 h4
    omega

set_option maxHeartbeats 400000 in
theorem reverse_nil (w : World) : Calls Tryz.prog 107 #[.slice none 0 0] w fun e w' => e = .returned (.tuple #[]) ∧ w' = w := by
  go_enter Tryz.func107, Tryz.ntmps107
  go_wp2
  go_loop [2, 3] (fun i j => i = .int .i64 0 ∧ j = .int .i64 (-1)) (fun _ _ => 0)
  case atStart => exact ⟨rfl, rfl⟩
  case round =>
    obtain ⟨rfl, rfl⟩ := hrel
    go_wp2
    go_end0
    exact ⟨rfl, rfl⟩

set_option maxRecDepth 100000 in
set_option maxHeartbeats 4000000 in
theorem wtext_pos (A : Option Addr) (l : List Nat) (c : Nat) (w : World) (hs : Sl w A l c) (hbad : badL false l = false) (hl0 : 0 < val l) :
    Calls Tryz.prog 62 #[.agg #[.bool false, .slice A l.length c]] w (TRes (textS false l) w) := by
  have Hs := Lib.hid hs
  obtain ⟨k1, m1, p1⟩ := good_canon hs.lim hbad
  have hc := chk_good hbad
  have hr : textS false l = (decS (val l), 0) := by unfold textS textZ; rw [hbad, if_neg (by simp), if_neg (by omega)]; rfl
  rw [hr]
  obtain ⟨ee, hee, hvl⟩ : ∃ ee, ee ≤ 131072 ∧ val l < 2 ^ ee := ⟨32 * l.length, by omega, by
    have h1 := val_lt k1.1
    rw [show (4294967296 : Nat) = 2 ^ 32 by rfl, ← Nat.pow_mul] at h1
    exact h1⟩
  have Hvl := Lib.hid hvl
  have Hk1 := Lib.hid k1
  obtain ⟨i8, hi8, hz80, hz81, hz82⟩ := info_parts info8
  clear hr hbad hs hvl k1 p1
  go_enter Tryz.func62, Tryz.ntmps62
  go_wp2_with fail
  refine (check_any _ [⟨false, A, l, c⟩] (by simp) _ ?hc).mono ?_
  case hc => exact Wcs.one (Hs.out.alloc _) (by simp)
  rintro e w1 ⟨rfl, hb⟩
  rw [chkW_one]
  have K : Hid (Cw w1 w.heap.size false A l.length c) := ⟨kept_cell hb (by go_simp), kept_cell hb (by go_simp)⟩
  have B : Hid (Below w.heap.size w w1) := below_mono (blw2 _ _ _) hb
  have S : Hid (Sl w1 A l c) := ((Hs.out.alloc _).alloc _).below hb
  clear hb
  obtain ⟨q0, q1⟩ := K.out
  have hsz1 : w.heap.size + 1 ≤ w1.heap.size := lt_of_cell (a := ⟨w.heap.size, 0, none⟩) q0
  go_wp2
  go_loopg [5, 6, 7, 8] (val l) (fun gh s5 s6 _ _ wr => ∃ (cur : List Nat) (A6 : Option Addr) (c6 : Nat) (D : List UInt8) (A5 : Option Addr) (c5 : Nat), gh = val cur ∧ s5 = .slice A5 D.length c5 ∧ s6 = .slice A6 cur.length c6 ∧ Canon cur ∧ cur.length ≤ 4096 ∧ Dig D ∧ D.length ≤ 131081 ∧ dl D + 10 ^ D.length * val cur = val l ∧ Sl wr A6 cur c6 ∧ Ob wr (w.heap.size + 1) 5 (.slice A5 D.length c5) D ∧ Below (w.heap.size + 1) w1 wr)
  case atStart => exact ⟨l, A, c, [], none, 0, rfl, rfl, rfl, Hk1.out, m1, dig_nil, by simp, by simp [dl], S.out, Ob.nil0 _ _ _, Below.refl _ _⟩
  case round =>
    clear S
    obtain ⟨cur, A6, c6, D, A5, c5, hgk, rfl, rfl, hkc, hcl, hdig, hDb, hval, s6, ob, b⟩ := hrel
    have Hkc := Lib.hid hkc
    have Hdig := Lib.hid hdig
    have Hval := Lib.hid hval
    have S6 := Lib.hid s6
    have OB := Lib.hid ob
    have B2 := Lib.hid b
    obtain ⟨q0, q1⟩ : Cw wr w.heap.size false A l.length c := ⟨(b.cell (by simp)).trans K.out.1, (b.cell (by simp)).trans K.out.2⟩
    clear hkc hdig hval s6 ob b
    by_cases hc0 : 0 < cur.length
    · have hpos := canon_val_pos Hkc.out hc0
      have hDl : D.length ≤ 131072 := by
        have h1 : 10 ^ D.length ≤ 10 ^ D.length * val cur := Nat.le_mul_of_pos_right _ hpos
        have h2 := Hval.out
        exact dig_len_le (Nat.lt_of_le_of_lt (by omega) Hvl.out) hee
      have hgq : val cur / 1000000000 < gk := by omega
      have hql : (limbs (val cur / 1000000000)).length ≤ 4096 := Nat.le_trans (canon_len_le (canon_limbs _) Hkc.out (by rw [val_limbs]; omega)) hcl
      have hsh := short_new A6 cur c6 1000000000 wr S6.out (by omega) (by omega) (by omega)
      have Hvq := Lib.hid (val_limbs (val cur / 1000000000))
      have Hst : Hid (dl D + 10 ^ D.length * (val cur % 1000000000 + 10 ^ 9 * (val cur / 1000000000)) = val l) := by
        have h1 := Hval.out
        have h2 : val cur % 1000000000 + 10 ^ 9 * (val cur / 1000000000) = val cur := by omega
        unfold Hid
        rw [h2]; exact h1
      have hx0 : val cur % 1000000000 < 1000000000 := Nat.mod_lt _ (by omega)
      go_wp2_with fail
      refine hsh.mono ?_
      rintro e w4 ⟨A9, c9, rfl, hs9, hnew, hb⟩
      have S9 := Lib.hid hs9
      have Hfar : Hid (FarS A9 (limbs (val cur / 1000000000)) (.slice A5 D.length c5)) := farS_new OB.out hnew
      replace OB : Hid (Ob w4 (w.heap.size + 1) 5 (.slice A5 D.length c5) D) := OB.out.below hb (Nat.le_refl _)
      replace B2 : Hid (Below (w.heap.size + 1) w1 w4) := B2.out.trans (hb.mono (Nat.le_trans hsz1 B2.out.size))
      clear hb hs9 hsh S6 Hval hnew
      have Hql : Hid (Canon (limbs (val cur / 1000000000))) := canon_limbs _
      generalize limbs (val cur / 1000000000) = lq at *
      generalize val cur / 1000000000 = q at *
      generalize val cur % 1000000000 = x0 at *
      go_wp2
      go_loopw [5, 8, 26, 28, 29, 30, 31, 32, 33, 34, 35, 36, 37] (fun s5 s8 s26 _ _ _ _ _ _ _ _ _ _ wi => ∃ (j x : Nat) (D2 : List UInt8) (A7 : Option Addr) (c7 : Nat), s5 = .slice A7 D2.length c7 ∧ s8 = .int .u32 x ∧ s26 = .int .i64 j ∧ j ≤ 9 ∧ x < 10 ^ (9 - j) ∧ D2.length = D.length + j ∧ Dig D2 ∧ dl D2 + 10 ^ D2.length * (x + 10 ^ (9 - j) * q) = val l ∧ Ob wi (w.heap.size + 1) 5 (.slice A7 D2.length c7) D2 ∧ FarS A9 lq (.slice A7 D2.length c7) ∧ Sl wi A9 lq c9 ∧ Below (w.heap.size + 1) w1 wi) (fun _ _ s26 _ _ _ _ _ _ _ _ _ _ _ => 9 - (intOf s26).toNat)
      case atStart => exact ⟨0, x0, D, A5, c5, rfl, rfl, rfl, by omega, by simpa using hx0, rfl, Hdig.out, Hst.out, OB.out, Hfar.out, S9.out, B2.out⟩
      case round =>
        obtain ⟨j, x, D2, A7, c7, rfl, rfl, rfl, hj, hx, hD2, hdig2, hval2, ob2, hfar, s9, hgi⟩ := hrel
        have Hfar2 := Lib.hid hfar
        have S92 := Lib.hid s9
        have Hdig2 := Lib.hid hdig2
        have Hval2 := Lib.hid hval2
        have O7 := Lib.hid ob2
        have Hgi := Lib.hid hgi
        have HD2 := Lib.hid hD2
        clear hdig2 hval2 ob2 hgi hD2 hfar s9
        by_cases hj9 : j < 9
        · have Hdg : Hid ((48 : Int) + (x : Int) % 10 = ((dg x).toNat : Nat)) := by unfold Hid; rw [dg_toNat]; omega
          have Hl7 : Hid (D2.length + 1 ≤ 35184372088832) := by have := HD2.out; unfold Hid; omega
          have Hwb : Hid (w.heap.size + 1 ≤ wr.heap.size) := Nat.le_trans hsz1 Hgi.out.size
          have hx9 : x < 1000000000 := Nat.lt_of_lt_of_le hx (Nat.pow_le_pow_right (n := 10) (by omega) (show 9 - j ≤ 9 by omega))
          go_wp2_with (at_builtin; refine wpList_appB rfl _ _ 66 rfl (w.heap.size + 1) 5 i8 Tryz.underlying66 hi8 hz80 hz81 hz82 (.slice A7 D2.length c7) D2 rfl O7.out _ (dg x) Hdg.out _ rfl Hl7.out Hwb.out ?_; intro A8 c8 w5 hown hgrow hat; have O8 := Lib.hid hown; have B5 : Hid (Below (w.heap.size + 1) w1 w5) := Lib.hid (app_belowB2 Hgi.out O7.out hgrow Hwb.out); have S5 : Hid (Sl w5 A9 lq c9) := Lib.hid (farS_sl S92.out Hfar2.out hgrow); have F5 := Lib.hid (farS_grow S92.out Hfar2.out hat); clear hown hgrow hat)
          go_roundw
          case rel => exact ⟨j + 1, x / 10, D2 ++ [dg x], A8, c8, by rw [List.length_append]; rfl, by go_num, by go_num, hj9, text_lt hj9 hx, by rw [List.length_append, HD2.out]; rfl, dig_append Hdig2.out (dig_one _), text_step hj9 Hval2.out, O8.out, F5.out, S5.out, B5.out⟩
          case measure => simp [intOf]; omega
        · obtain rfl : j = 9 := by omega
          obtain rfl : x = 0 := by simp at hx; exact hx
          have Hval3 : Hid (dl D2 + 10 ^ D2.length * q = val l) := by have h1 := Hval2.out; unfold Hid; simpa using h1
          go_wp2
          go_roundg q
          case measure => exact hgq
          case rel => exact ⟨lq, A9, c9, D2, A7, c7, Hvq.out.symm, rfl, rfl, Hql.out, hql, Hdig2.out, by have := HD2.out; omega, by rw [Hvq.out]; exact Hval3.out, S92.out, O7.out, Hgi.out⟩
    · obtain rfl := List.eq_nil_of_length_eq_zero (show cur.length = 0 by omega)
      have hDv : dl D = val l := by have h := Hval.out; simpa [val] using h
      have hD0 : 0 < D.length := by
        rcases D with _ | ⟨x, t⟩
        · simp [dl] at hDv; omega
        · simp
      obtain ⟨gD, rfl, hgD, hgl, hfz⟩ := OB.out.block hD0
      have hrev := reverse_any gD c5 D wr hD0 (by omega) (fun i hi => by
        obtain ⟨b, o, e, hc⟩ := OB.out.rd hD0
        cases e
        have := hc i hi
        rwa [Nat.zero_add] at this) hfz
      have Hrev := Lib.hid hrev
      have hDn : 0 < (decS (val l)).length := by
        rcases hds : decS (val l) with _ | ⟨x, t⟩
        · have := decS_nil.1 hds; omega
        · simp
      have Hdrop : Hid (Lib.trimLeftB D.reverse 48 = decS (val l)) := by
        unfold Hid Lib.trimLeftB
        rw [dec_drop (by rw [List.reverse_reverse]; exact Hdig.out), List.reverse_reverse, hDv]
      have hSl : (decS (val l)).length ≤ 131081 := by
        have h1 := Hdrop.out
        rw [← h1]
        exact Nat.le_trans (List.dropWhile_sublist _).length_le (by rw [List.length_reverse]; exact hDb)
      have hiso : (decS (val l)).isEmpty = false := by rw [List.isEmpty_eq_false_iff]; intro h; rw [h] at hDn; simp at hDn
      clear hrev hfz
      go_wp2_with fail
      refine Hrev.out.mono ?_
      rintro e w5 ⟨rfl, hcells, hbut⟩
      have q2 := hbut.cell q0 (show w.heap.size ≠ gD by omega)
      clear q0 q1
      have Hconv : Hid (∀ W : World, (∀ i, i < D.length → W.cell? ⟨gD, i, none⟩ = some (.int .u8 ((D.reverse[i]?.getD 0).toNat : Nat))) → (convert 66 9 (.slice (some ⟨gD, 0, none⟩) D.length c5)).run Tryz.prog W = .ok (.string ⟨D.reverse.toArray⟩) W) := by
        intro W hW
        have h := run_convert_bytes_back (P := Tryz.prog) W 66 9 5 ⟨gD, 0, none⟩ c5 D.reverse Tryz.underlying66 Tryz.underlying5 Tryz.underlying9 (fun j hj => by
          rw [List.length_reverse] at hj
          have h1 := hW j hj
          rw [List.getElem?_eq_getElem (by simpa using hj), Option.getD_some] at h1
          unfold Addr.add
          split
          · next h0 => subst h0; exact h1
          · simpa using h1)
        rwa [List.length_reverse] at h
      have hcv := Hconv.out w5 hcells
      clear Hconv hcells
      go_wp2_with fail
      refine (Tryz.strings_TrimLeft_one ⟨D.reverse.toArray⟩ 48 (by decide) _).mono ?_
      rw [show (ByteArray.mk D.reverse.toArray).data.toList = D.reverse from rfl, Hdrop.out]
      rintro e w6 ⟨rfl, rfl⟩
      have HB := Lib.hid (But.below' (B.out.trans (B2.out.mono (Nat.le_succ _))) hbut (by omega))
      clear hcv hbut
      generalize hS : decS (val l) = S at *
      have hS2 := Lib.hid hS
      clear hS
      go_wp2
      go_ret2
      exact ⟨rfl, HB.out⟩

set_option maxRecDepth 100000 in
set_option maxHeartbeats 4000000 in
theorem wtext_neg (A : Option Addr) (l : List Nat) (c : Nat) (w : World) (hs : Sl w A l c) (hbad : badL true l = false) (hl0 : 0 < val l) :
    Calls Tryz.prog 62 #[.agg #[.bool true, .slice A l.length c]] w (TRes (textS true l) w) := by
  have Hs := Lib.hid hs
  obtain ⟨k1, m1, p1⟩ := good_canon hs.lim hbad
  have hc := chk_good hbad
  have hr : textS true l = (45 :: decS (val l), 0) := by unfold textS textZ; rw [hbad, if_neg (by simp), if_neg (by omega)]; rfl
  rw [hr]
  obtain ⟨ee, hee, hvl⟩ : ∃ ee, ee ≤ 131072 ∧ val l < 2 ^ ee := ⟨32 * l.length, by omega, by
    have h1 := val_lt k1.1
    rw [show (4294967296 : Nat) = 2 ^ 32 by rfl, ← Nat.pow_mul] at h1
    exact h1⟩
  have Hvl := Lib.hid hvl
  have Hk1 := Lib.hid k1
  obtain ⟨i8, hi8, hz80, hz81, hz82⟩ := info_parts info8
  clear hr hbad hs hvl k1 p1
  go_enter Tryz.func62, Tryz.ntmps62
  go_wp2_with fail
  refine (check_any _ [⟨true, A, l, c⟩] (by simp) _ ?hc).mono ?_
  case hc => exact Wcs.one (Hs.out.alloc _) (by simp)
  rintro e w1 ⟨rfl, hb⟩
  rw [chkW_one]
  have K : Hid (Cw w1 w.heap.size true A l.length c) := ⟨kept_cell hb (by go_simp), kept_cell hb (by go_simp)⟩
  have B : Hid (Below w.heap.size w w1) := below_mono (blw2 _ _ _) hb
  have S : Hid (Sl w1 A l c) := ((Hs.out.alloc _).alloc _).below hb
  clear hb
  obtain ⟨q0, q1⟩ := K.out
  have hsz1 : w.heap.size + 1 ≤ w1.heap.size := lt_of_cell (a := ⟨w.heap.size, 0, none⟩) q0
  go_wp2
  go_loopg [5, 6, 7, 8] (val l) (fun gh s5 s6 _ _ wr => ∃ (cur : List Nat) (A6 : Option Addr) (c6 : Nat) (D : List UInt8) (A5 : Option Addr) (c5 : Nat), gh = val cur ∧ s5 = .slice A5 D.length c5 ∧ s6 = .slice A6 cur.length c6 ∧ Canon cur ∧ cur.length ≤ 4096 ∧ Dig D ∧ D.length ≤ 131081 ∧ dl D + 10 ^ D.length * val cur = val l ∧ Sl wr A6 cur c6 ∧ Ob wr (w.heap.size + 1) 5 (.slice A5 D.length c5) D ∧ Below (w.heap.size + 1) w1 wr)
  case atStart => exact ⟨l, A, c, [], none, 0, rfl, rfl, rfl, Hk1.out, m1, dig_nil, by simp, by simp [dl], S.out, Ob.nil0 _ _ _, Below.refl _ _⟩
  case round =>
    clear S
    obtain ⟨cur, A6, c6, D, A5, c5, hgk, rfl, rfl, hkc, hcl, hdig, hDb, hval, s6, ob, b⟩ := hrel
    have Hkc := Lib.hid hkc
    have Hdig := Lib.hid hdig
    have Hval := Lib.hid hval
    have S6 := Lib.hid s6
    have OB := Lib.hid ob
    have B2 := Lib.hid b
    obtain ⟨q0, q1⟩ : Cw wr w.heap.size true A l.length c := ⟨(b.cell (by simp)).trans K.out.1, (b.cell (by simp)).trans K.out.2⟩
    clear hkc hdig hval s6 ob b
    by_cases hc0 : 0 < cur.length
    · have hpos := canon_val_pos Hkc.out hc0
      have hDl : D.length ≤ 131072 := by
        have h1 : 10 ^ D.length ≤ 10 ^ D.length * val cur := Nat.le_mul_of_pos_right _ hpos
        have h2 := Hval.out
        exact dig_len_le (Nat.lt_of_le_of_lt (by omega) Hvl.out) hee
      have hgq : val cur / 1000000000 < gk := by omega
      have hql : (limbs (val cur / 1000000000)).length ≤ 4096 := Nat.le_trans (canon_len_le (canon_limbs _) Hkc.out (by rw [val_limbs]; omega)) hcl
      have hsh := short_new A6 cur c6 1000000000 wr S6.out (by omega) (by omega) (by omega)
      have Hvq := Lib.hid (val_limbs (val cur / 1000000000))
      have Hst : Hid (dl D + 10 ^ D.length * (val cur % 1000000000 + 10 ^ 9 * (val cur / 1000000000)) = val l) := by
        have h1 := Hval.out
        have h2 : val cur % 1000000000 + 10 ^ 9 * (val cur / 1000000000) = val cur := by omega
        unfold Hid
        rw [h2]; exact h1
      have hx0 : val cur % 1000000000 < 1000000000 := Nat.mod_lt _ (by omega)
      go_wp2_with fail
      refine hsh.mono ?_
      rintro e w4 ⟨A9, c9, rfl, hs9, hnew, hb⟩
      have S9 := Lib.hid hs9
      have Hfar : Hid (FarS A9 (limbs (val cur / 1000000000)) (.slice A5 D.length c5)) := farS_new OB.out hnew
      replace OB : Hid (Ob w4 (w.heap.size + 1) 5 (.slice A5 D.length c5) D) := OB.out.below hb (Nat.le_refl _)
      replace B2 : Hid (Below (w.heap.size + 1) w1 w4) := B2.out.trans (hb.mono (Nat.le_trans hsz1 B2.out.size))
      clear hb hs9 hsh S6 Hval hnew
      have Hql : Hid (Canon (limbs (val cur / 1000000000))) := canon_limbs _
      generalize limbs (val cur / 1000000000) = lq at *
      generalize val cur / 1000000000 = q at *
      generalize val cur % 1000000000 = x0 at *
      go_wp2
      go_loopw [5, 8, 26, 28, 29, 30, 31, 32, 33, 34, 35, 36, 37] (fun s5 s8 s26 _ _ _ _ _ _ _ _ _ _ wi => ∃ (j x : Nat) (D2 : List UInt8) (A7 : Option Addr) (c7 : Nat), s5 = .slice A7 D2.length c7 ∧ s8 = .int .u32 x ∧ s26 = .int .i64 j ∧ j ≤ 9 ∧ x < 10 ^ (9 - j) ∧ D2.length = D.length + j ∧ Dig D2 ∧ dl D2 + 10 ^ D2.length * (x + 10 ^ (9 - j) * q) = val l ∧ Ob wi (w.heap.size + 1) 5 (.slice A7 D2.length c7) D2 ∧ FarS A9 lq (.slice A7 D2.length c7) ∧ Sl wi A9 lq c9 ∧ Below (w.heap.size + 1) w1 wi) (fun _ _ s26 _ _ _ _ _ _ _ _ _ _ _ => 9 - (intOf s26).toNat)
      case atStart => exact ⟨0, x0, D, A5, c5, rfl, rfl, rfl, by omega, by simpa using hx0, rfl, Hdig.out, Hst.out, OB.out, Hfar.out, S9.out, B2.out⟩
      case round =>
        obtain ⟨j, x, D2, A7, c7, rfl, rfl, rfl, hj, hx, hD2, hdig2, hval2, ob2, hfar, s9, hgi⟩ := hrel
        have Hfar2 := Lib.hid hfar
        have S92 := Lib.hid s9
        have Hdig2 := Lib.hid hdig2
        have Hval2 := Lib.hid hval2
        have O7 := Lib.hid ob2
        have Hgi := Lib.hid hgi
        have HD2 := Lib.hid hD2
        clear hdig2 hval2 ob2 hgi hD2 hfar s9
        by_cases hj9 : j < 9
        · have Hdg : Hid ((48 : Int) + (x : Int) % 10 = ((dg x).toNat : Nat)) := by unfold Hid; rw [dg_toNat]; omega
          have Hl7 : Hid (D2.length + 1 ≤ 35184372088832) := by have := HD2.out; unfold Hid; omega
          have Hwb : Hid (w.heap.size + 1 ≤ wr.heap.size) := Nat.le_trans hsz1 Hgi.out.size
          have hx9 : x < 1000000000 := Nat.lt_of_lt_of_le hx (Nat.pow_le_pow_right (n := 10) (by omega) (show 9 - j ≤ 9 by omega))
          go_wp2_with (at_builtin; refine wpList_appB rfl _ _ 66 rfl (w.heap.size + 1) 5 i8 Tryz.underlying66 hi8 hz80 hz81 hz82 (.slice A7 D2.length c7) D2 rfl O7.out _ (dg x) Hdg.out _ rfl Hl7.out Hwb.out ?_; intro A8 c8 w5 hown hgrow hat; have O8 := Lib.hid hown; have B5 : Hid (Below (w.heap.size + 1) w1 w5) := Lib.hid (app_belowB2 Hgi.out O7.out hgrow Hwb.out); have S5 : Hid (Sl w5 A9 lq c9) := Lib.hid (farS_sl S92.out Hfar2.out hgrow); have F5 := Lib.hid (farS_grow S92.out Hfar2.out hat); clear hown hgrow hat)
          go_roundw
          case rel => exact ⟨j + 1, x / 10, D2 ++ [dg x], A8, c8, by rw [List.length_append]; rfl, by go_num, by go_num, hj9, text_lt hj9 hx, by rw [List.length_append, HD2.out]; rfl, dig_append Hdig2.out (dig_one _), text_step hj9 Hval2.out, O8.out, F5.out, S5.out, B5.out⟩
          case measure => simp [intOf]; omega
        · obtain rfl : j = 9 := by omega
          obtain rfl : x = 0 := by simp at hx; exact hx
          have Hval3 : Hid (dl D2 + 10 ^ D2.length * q = val l) := by have h1 := Hval2.out; unfold Hid; simpa using h1
          go_wp2
          go_roundg q
          case measure => exact hgq
          case rel => exact ⟨lq, A9, c9, D2, A7, c7, Hvq.out.symm, rfl, rfl, Hql.out, hql, Hdig2.out, by have := HD2.out; omega, by rw [Hvq.out]; exact Hval3.out, S92.out, O7.out, Hgi.out⟩
    · obtain rfl := List.eq_nil_of_length_eq_zero (show cur.length = 0 by omega)
      have hDv : dl D = val l := by have h := Hval.out; simpa [val] using h
      have hD0 : 0 < D.length := by
        rcases D with _ | ⟨x, t⟩
        · simp [dl] at hDv; omega
        · simp
      obtain ⟨gD, rfl, hgD, hgl, hfz⟩ := OB.out.block hD0
      have hrev := reverse_any gD c5 D wr hD0 (by omega) (fun i hi => by
        obtain ⟨b, o, e, hc⟩ := OB.out.rd hD0
        cases e
        have := hc i hi
        rwa [Nat.zero_add] at this) hfz
      have Hrev := Lib.hid hrev
      have hDn : 0 < (decS (val l)).length := by
        rcases hds : decS (val l) with _ | ⟨x, t⟩
        · have := decS_nil.1 hds; omega
        · simp
      have Hdrop : Hid (Lib.trimLeftB D.reverse 48 = decS (val l)) := by
        unfold Hid Lib.trimLeftB
        rw [dec_drop (by rw [List.reverse_reverse]; exact Hdig.out), List.reverse_reverse, hDv]
      have hSl : (decS (val l)).length ≤ 131081 := by
        have h1 := Hdrop.out
        rw [← h1]
        exact Nat.le_trans (List.dropWhile_sublist _).length_le (by rw [List.length_reverse]; exact hDb)
      have hiso : (decS (val l)).isEmpty = false := by rw [List.isEmpty_eq_false_iff]; intro h; rw [h] at hDn; simp at hDn
      clear hrev hfz
      go_wp2_with fail
      refine Hrev.out.mono ?_
      rintro e w5 ⟨rfl, hcells, hbut⟩
      have q2 := hbut.cell q0 (show w.heap.size ≠ gD by omega)
      clear q0 q1
      have Hconv : Hid (∀ W : World, (∀ i, i < D.length → W.cell? ⟨gD, i, none⟩ = some (.int .u8 ((D.reverse[i]?.getD 0).toNat : Nat))) → (convert 66 9 (.slice (some ⟨gD, 0, none⟩) D.length c5)).run Tryz.prog W = .ok (.string ⟨D.reverse.toArray⟩) W) := by
        intro W hW
        have h := run_convert_bytes_back (P := Tryz.prog) W 66 9 5 ⟨gD, 0, none⟩ c5 D.reverse Tryz.underlying66 Tryz.underlying5 Tryz.underlying9 (fun j hj => by
          rw [List.length_reverse] at hj
          have h1 := hW j hj
          rw [List.getElem?_eq_getElem (by simpa using hj), Option.getD_some] at h1
          unfold Addr.add
          split
          · next h0 => subst h0; exact h1
          · simpa using h1)
        rwa [List.length_reverse] at h
      have hcv := Hconv.out w5 hcells
      clear Hconv hcells
      go_wp2_with fail
      refine (Tryz.strings_TrimLeft_one ⟨D.reverse.toArray⟩ 48 (by decide) _).mono ?_
      rw [show (ByteArray.mk D.reverse.toArray).data.toList = D.reverse from rfl, Hdrop.out]
      rintro e w6 ⟨rfl, rfl⟩
      have HB := Lib.hid (But.below' (B.out.trans (B2.out.mono (Nat.le_succ _))) hbut (by omega))
      clear hcv hbut
      generalize hS : decS (val l) = S at *
      have hS2 := Lib.hid hS
      clear hS
      go_wp2
      go_ret2
      exact ⟨rfl, HB.out⟩

set_option maxRecDepth 100000 in
set_option maxHeartbeats 4000000 in
theorem wtext_zero (A : Option Addr) (c : Nat) (w : World) :
    Calls Tryz.prog 62 #[.agg #[.bool false, .slice A 0 c]] w (TRes ([48], 0) w) := by
  obtain ⟨l, hl⟩ : ∃ l : List Nat, l = [] := ⟨[], rfl⟩
  have Hs : Hid (Sl w A l c) := by rw [hl]; exact Sl.nil _ _ _
  have hc : chk false l = 0 := by rw [hl]; exact chk_good rfl
  have hl2 : l.length = 0 := by rw [hl]; rfl
  rw [show (0 : Nat) = l.length from hl2.symm]
  have Hl2 := Lib.hid hl2
  clear hl hl2
  go_enter Tryz.func62, Tryz.ntmps62
  go_wp2_with fail
  refine (check_any _ [⟨false, A, l, c⟩] (by simp) _ ?hc).mono ?_
  case hc => exact Wcs.one (Hs.out.alloc _) (by simp)
  rintro e w1 ⟨rfl, hb⟩
  rw [chkW_one]
  have K : Hid (Cw w1 w.heap.size false A l.length c) := ⟨kept_cell hb (by go_simp), kept_cell hb (by go_simp)⟩
  have B : Hid (Below w.heap.size w w1) := below_mono (blw2 _ _ _) hb
  have S : Hid (Sl w1 A l c) := ((Hs.out.alloc _).alloc _).below hb
  clear hb
  obtain ⟨q0, q1⟩ := K.out
  have hsz1 : w.heap.size + 1 ≤ w1.heap.size := lt_of_cell (a := ⟨w.heap.size, 0, none⟩) q0
  go_wp2
  rw [Hl2.out] at *
  go_loopg [5, 6, 7, 8] 0 (fun _ s5 s6 _ _ wr => s5 = .slice none 0 0 ∧ s6 = .slice A 0 c ∧ w1 = wr)
  case atStart => exact ⟨rfl, rfl, rfl⟩
  case round =>
    obtain ⟨rfl, rfl, rfl⟩ := hrel
    have hcv := fun W : World => run_convert_bytes_nil (P := Tryz.prog) (w := W) 66 5 Tryz.underlying66 Tryz.underlying5 0 0
    go_wp2_with fail
    refine (reverse_nil _).mono ?_
    rintro e w5 ⟨rfl, rfl⟩
    go_wp2_with fail
    refine (Tryz.strings_TrimLeft_one ⟨#[]⟩ 48 (by decide) _).mono ?_
    rintro e w6 ⟨rfl, rfl⟩
    go_wp2
    go_ret2
    exact ⟨rfl, B.out⟩

set_option maxRecDepth 100000 in
set_option maxHeartbeats 4000000 in
theorem wtext_any (n : Bool) (A : Option Addr) (l : List Nat) (c : Nat) (w : World) (hs : Sl w A l c) :
    Calls Tryz.prog 62 #[.agg #[.bool n, .slice A l.length c]] w (TRes (textS n l) w) := by
  cases hbad : badL n l with
  | false =>
    obtain ⟨k1, m1, p1⟩ := good_canon hs.lim hbad
    by_cases h0 : 0 < val l
    · cases n with
      | false => exact wtext_pos A l c w hs hbad h0
      | true => exact wtext_neg A l c w hs hbad h0
    · have hl : l = [] := by
        rcases l with _ | ⟨x, t⟩
        · rfl
        · exact absurd (canon_val_pos k1 (by simp)) h0
      subst hl
      cases n with
      | true => exact absurd (p1 rfl) (by simp)
      | false => exact wtext_zero A c w
  | true =>
    have Hs := Lib.hid hs
    have hr : textS n l = ([], 8) := by unfold textS; rw [hbad, if_pos rfl]
    have hc := chk_bad hbad
    rw [hr]
    clear hr hbad hs
    go_enter Tryz.func62, Tryz.ntmps62
    go_wp2_with fail
    refine (check_any _ [⟨n, A, l, c⟩] (by simp) _ ?hc).mono ?_
    case hc => exact Wcs.one (Hs.out.alloc _) (by simp)
    rintro e w1 ⟨rfl, hb⟩
    rw [chkW_one]
    have K : Hid (Cw w1 w.heap.size n A l.length c) := ⟨kept_cell hb (by go_simp), kept_cell hb (by go_simp)⟩
    have B : Hid (Below w.heap.size w w1) := below_mono (blw2 _ _ _) hb
    have S : Hid (Sl w1 A l c) := ((Hs.out.alloc _).alloc _).below hb
    clear hb
    obtain ⟨q0, q1⟩ := K.out
    have hsz1 : w.heap.size + 1 ≤ w1.heap.size := lt_of_cell (a := ⟨w.heap.size, 0, none⟩) q0
    go_wp2
    go_ret2
    exact ⟨rfl, B.out⟩

end Go.Proofs.YtmelbahbjdogdaaGreatDoor

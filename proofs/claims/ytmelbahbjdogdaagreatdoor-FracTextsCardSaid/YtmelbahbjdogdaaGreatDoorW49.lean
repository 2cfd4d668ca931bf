/- Walks: the reference's Text. -/
import Derived.Test.YtmelbahbjdogdaaGreatDoorW10
import Derived.Test.YtmelbahbjdogdaaGreatDoorW48
namespace Go.Proofs.YtmelbahbjdogdaaGreatDoor
open Go.RowKit
attribute [local go_sem ↓] Go.wp_at_zero Go.wp_at_succ
theorem str_join (a b : List UInt8) : Value.string (ByteArray.mk a.reverse.toArray ++ ByteArray.mk b.reverse.toArray) = .string ⟨(b ++ a).reverse.toArray⟩ := by
  congr 1
  apply ByteArray.ext
  simp

theorem dig_extract {m : Nat} (h : m < 10) : (ByteArray.mk #[48, 49, 50, 51, 52, 53, 54, 55, 56, 57]).extract m (m + 1) = ⟨#[UInt8.ofNat (48 + m)]⟩ := by
  match m, h with
  | 0, _ | 1, _ | 2, _ | 3, _ | 4, _ | 5, _ | 6, _ | 7, _ | 8, _ | 9, _ => apply ByteArray.ext; simp [ByteArray.data_extract]

theorem str_step (x : Nat) (P : List UInt8) : Value.string ((ByteArray.mk #[48, 49, 50, 51, 52, 53, 54, 55, 56, 57]).extract (x % 10) (x % 10 + 1) ++ ByteArray.mk P.reverse.toArray) = .string ⟨(P ++ [dg x]).reverse.toArray⟩ := by
  rw [dig_extract (Nat.mod_lt _ (by omega))]
  congr 1
  apply ByteArray.ext
  simp [dg]

theorem text_step' {j x q v : Nat} {P : List UInt8} (hj : j < 9) (_ : P.length = j) (h : dl P + 10 ^ P.length * (x + 10 ^ (9 - j) * q) = v) :
    dl (P ++ [dg x]) + 10 ^ (P ++ [dg x]).length * (x / 10 + 10 ^ (9 - (j + 1)) * q) = v := text_step hj h

theorem top_step {x : Nat} {P : List UInt8} (hx : 0 < x) (h0 : x / 10 = 0) : ∀ c, (P ++ [dg x]).getLast? = some c → c ≠ 48 := by
  intro c hc
  rw [List.getLast?_append] at hc
  simp at hc
  subst hc
  intro e
  have h := congrArg UInt8.toNat e
  rw [dg_toNat] at h
  have h3 : (48 : UInt8).toNat = 48 := rfl
  omega

theorem ne_of_dl {P : List UInt8} (h : 0 < dl P) : P ≠ [] := by
  rintro rfl
  simp [dl] at h

theorem top_join {D P : List UInt8} (hP : P ≠ []) (h : ∀ c, P.getLast? = some c → c ≠ 48) : ∀ c, (D ++ P).getLast? = some c → c ≠ 48 := by
  intro c hc
  rw [List.getLast?_append] at hc
  rw [List.getLast?_eq_some_getLast hP] at hc h
  simp at hc
  exact h c (by rw [hc])

theorem text_join {v0 v q j x : Nat} {D P : List UInt8} (h : dl D + 10 ^ D.length * v0 = v) (_ : P.length = j) (k : dl P + 10 ^ P.length * (x + 10 ^ (9 - j) * q) = v0) (hx : x = 0) (hjq : j = 9 ∨ q = 0) :
    dl (D ++ P) + 10 ^ (D ++ P).length * q = v := by
  subst hx
  have e : dl P + 10 ^ P.length * q = v0 := by
    rcases hjq with rfl | rfl
    · simpa using k
    · simpa using k
  rw [dl_append, List.length_append, Nat.pow_add, ← h, ← e, Nat.mul_add, Nat.mul_assoc, Nat.add_assoc]

set_option maxRecDepth 100000 in
set_option maxHeartbeats 4000000 in
theorem rtext_pos (A : Option Addr) (l : List Nat) (c : Nat) (w : World) (hs : Sl w A l c) (hbad : badL false l = false) (hl0 : 0 < val l) :
    Calls Tryz.prog 64 #[.agg #[.bool false, .slice A l.length c]] w (TRes (textS false l) w) := by
  have Hs := Lib.hid hs
  obtain ⟨k1, m1, p1⟩ := good_canon hs.lim hbad
  have hc := chk_good hbad
  have hr : textS false l = (decS (val l), 0) := by unfold textS textZ; rw [hbad, if_neg (by simp), if_neg (by omega)]; rfl
  rw [hr]
  obtain ⟨ee, hee, hvl⟩ : ∃ ee, ee ≤ 131072 ∧ val l < 2 ^ ee := ⟨32 * l.length, by omega, by
    have h1 := val_lt k1.1
    rw [show (4294967296 : Nat) = 2 ^ 32 by rfl, ← Nat.pow_mul] at h1
    exact h1⟩
  have Hvl := Lib.hid hvl
  have Hk1 := Lib.hid k1
  clear hr hbad hs hvl k1 p1
  go_enter Tryz.func64, Tryz.ntmps64
  go_wp2_with fail
  refine (rcheck_any false A l c _ (Hs.out.alloc _)).mono ?_
  rintro e w1 ⟨rfl, hb⟩
  have K : Hid (Cw w1 w.heap.size false A l.length c) := ⟨kept_cell hb (by go_simp), kept_cell hb (by go_simp)⟩
  have B : Hid (Below w.heap.size w w1) := below_mono (blw1 _ _) hb
  have S : Hid (Sl w1 A l c) := (Hs.out.alloc _).below hb
  clear hb
  obtain ⟨q0, q1⟩ := K.out
  go_wp2
  go_loopg [5, 6, 7, 8, 9, 10, 11] (val l) (fun gh s5 s6 _ _ _ _ _ wr => ∃ (cur : List Nat) (A6 : Option Addr) (c6 : Nat) (D : List UInt8), gh = val cur ∧ s5 = .string ⟨D.reverse.toArray⟩ ∧ s6 = .slice A6 cur.length c6 ∧ Canon cur ∧ cur.length ≤ 4096 ∧ Dig D ∧ D.length ≤ 131081 ∧ dl D + 10 ^ D.length * val cur = val l ∧ (val cur = 0 → ∀ c, D.getLast? = some c → c ≠ 48) ∧ Sl wr A6 cur c6 ∧ Cw wr w.heap.size false A l.length c ∧ Below w.heap.size w wr)
  case atStart => exact ⟨l, A, c, [], rfl, rfl, rfl, Hk1.out, m1, dig_nil, by simp, by simp [dl], (fun _ c h => by cases h), S.out, K.out, B.out⟩
  case round =>
    clear S K B q0 q1
    obtain ⟨cur, A6, c6, D, hgk, rfl, rfl, hkc, hcl, hdig, hDb, hval, htop, s6, k, b⟩ := hrel
    have Hkc := Lib.hid hkc
    have Hdig := Lib.hid hdig
    have Hval := Lib.hid hval
    have Htop := Lib.hid htop
    have S6 := Lib.hid s6
    have B := Lib.hid b
    have K := Lib.hid k
    obtain ⟨q0, q1⟩ := k
    clear hkc hdig hval s6 b htop
    by_cases hc0 : 0 < cur.length
    · have hpos := canon_val_pos Hkc.out hc0
      have hDl : D.length ≤ 131072 := by
        have h1 : 10 ^ D.length ≤ 10 ^ D.length * val cur := Nat.le_mul_of_pos_right _ hpos
        have h2 := Hval.out
        exact dig_len_le (Nat.lt_of_le_of_lt (by omega) Hvl.out) hee
      have hgq : val cur / 1000000000 < gk := by omega
      have hql : (limbs (val cur / 1000000000)).length ≤ 4096 := Nat.le_trans (canon_len_le (canon_limbs _) Hkc.out (by rw [val_limbs]; omega)) hcl
      have hsh := rshort_any A6 cur c6 1000000000 wr S6.out (by omega) (by omega) (by omega)
      have Hvq := Lib.hid (val_limbs (val cur / 1000000000))
      have Hlq0 : Hid (0 < (limbs (val cur / 1000000000)).length ↔ 0 < val cur / 1000000000) := limbs_len_pos
      have Hst : Hid (val cur % 1000000000 + 10 ^ 9 * (val cur / 1000000000) = val cur) := by unfold Hid; omega
      have hx0 : val cur % 1000000000 < 1000000000 := Nat.mod_lt _ (by omega)
      have Hlx : Hid (0 < val cur % 1000000000 → limbs (val cur % 1000000000) = [val cur % 1000000000]) := fun h => by
        rw [limbs_pos h, Nat.mod_eq_of_lt (by omega), Nat.div_eq_of_lt (by omega), limbs_zero]
      go_wp2_with fail
      refine hsh.mono ?_
      rintro e w4 ⟨A9, c9, A8, c8, rfl, hs9, hs8, hb⟩
      have S9 := Lib.hid hs9
      have S8 := Lib.hid hs8
      have K2 := Lib.hid (K.out.keep hb)
      have B2 := Lib.hid (below_mono B.out hb)
      clear hb hs9 hs8 hsh S6 K B q0 q1
      have Hql : Hid (Canon (limbs (val cur / 1000000000))) := canon_limbs _
      generalize limbs (val cur / 1000000000) = lq at *
      generalize val cur / 1000000000 = q at *
      generalize val cur % 1000000000 = x0 at *
      obtain ⟨q0, q1⟩ := K2.out
      have Hxx : Hid (x0 < 1000000000) := hx0
      have Hv0 : Hid (x0 + 10 ^ 9 * q = val cur) := Hst.out
      clear Hst
      rcases Nat.eq_zero_or_pos x0 with hx00 | hx00
      · subst hx00
        rw [limbs_zero]
        go_wp2
        go_loop [9, 10, 11, 33, 34, 35, 36, 37, 38, 39, 40, 41, 42, 43, 44, 45, 46, 47, 48, 49, 50, 51, 52, 53, 54, 55, 56] (fun s9 s10 s11 _ _ _ _ _ _ _ _ _ _ _ _ _ _ _ _ _ _ _ _ _ _ _ _ => ∃ (j x : Nat) (P : List UInt8), s9 = .int .u32 x ∧ s10 = .string ⟨P.reverse.toArray⟩ ∧ s11 = .int .i64 j ∧ j ≤ 9 ∧ x < 10 ^ (9 - j) ∧ P.length = j ∧ Dig P ∧ dl P + 10 ^ P.length * (x + 10 ^ (9 - j) * q) = val cur ∧ (x = 0 → q = 0 → ∀ c, P.getLast? = some c → c ≠ 48)) (fun _ _ s11 _ _ _ _ _ _ _ _ _ _ _ _ _ _ _ _ _ _ _ _ _ _ _ _ => 9 - (intOf s11).toNat)
        case atStart => exact ⟨0, 0, [], rfl, rfl, rfl, by omega, (by have h := Hxx.out; simp <;> omega), rfl, dig_nil, by have h := Hv0.out; simp [dl]; omega, (fun _ _ c h => by cases h)⟩
        case round =>
          obtain ⟨j, x, P, rfl, rfl, rfl, hj, hx, hPj, hdigP, hvalP, htopP⟩ := hrel
          have HdigP := Lib.hid hdigP
          have HvalP := Lib.hid hvalP
          have HtopP := Lib.hid htopP
          have HPj := Lib.hid hPj
          have hPl : P.length ≤ 9 := by omega
          have hx9 : x < 1000000000 := Nat.lt_of_lt_of_le hx (Nat.pow_le_pow_right (n := 10) (by omega) (show 9 - j ≤ 9 by omega))
          clear hdigP hvalP htopP hPj
          by_cases hj9 : j < 9
          · by_cases hlq : 0 < lq.length
            · go_wp2
              go_round
              case rel => exact ⟨j + 1, x / 10, P ++ [dg x], by go_num, str_step x P, by go_num, hj9, text_lt hj9 hx, by rw [List.length_append, HPj.out]; rfl, dig_append HdigP.out (dig_one _), text_step' hj9 HPj.out HvalP.out, (fun _ hq0 => absurd (Hlq0.out.1 hlq) (by omega))⟩
              case measure => simp [intOf]; omega
            · by_cases hxp : 0 < x
              · go_wp2
                go_round
                case rel => exact ⟨j + 1, x / 10, P ++ [dg x], by go_num, str_step x P, by go_num, hj9, text_lt hj9 hx, by rw [List.length_append, HPj.out]; rfl, dig_append HdigP.out (dig_one _), text_step' hj9 HPj.out HvalP.out, (fun h0 _ => top_step hxp h0)⟩
                case measure => simp [intOf]; omega
              · have Hjq : Hid (x = 0 ∧ (j = 9 ∨ q = 0)) := ⟨by omega, .inr (by have h := Hlq0.out; omega)⟩
                go_wp2
                go_roundg q
                case measure => omega
                case rel => exact ⟨lq, A9, c9, D ++ P, Hvq.out.symm, str_join P D, rfl, Hql.out, hql, dig_append Hdig.out HdigP.out, by rw [List.length_append]; omega, by rw [Hvq.out]; exact text_join Hval.out HPj.out HvalP.out Hjq.out.1 Hjq.out.2, by rw [Hvq.out]; exact fun hq0 => top_join (ne_of_dl (by have h := HvalP.out; rw [Hjq.out.1, hq0] at h; simp at h; omega)) (HtopP.out Hjq.out.1 hq0), S9.out, K2.out, B2.out⟩
          · have Hjq : Hid (x = 0 ∧ (j = 9 ∨ q = 0)) := ⟨by rw [show 9 - j = 0 by omega] at hx; simpa using hx, .inl (by omega)⟩
            go_wp2
            go_roundg q
            case measure => omega
            case rel => exact ⟨lq, A9, c9, D ++ P, Hvq.out.symm, str_join P D, rfl, Hql.out, hql, dig_append Hdig.out HdigP.out, by rw [List.length_append]; omega, by rw [Hvq.out]; exact text_join Hval.out HPj.out HvalP.out Hjq.out.1 Hjq.out.2, by rw [Hvq.out]; exact fun hq0 => top_join (ne_of_dl (by have h := HvalP.out; rw [Hjq.out.1, hq0] at h; simp at h; omega)) (HtopP.out Hjq.out.1 hq0), S9.out, K2.out, B2.out⟩
      · have hlx := Hlx.out hx00
        rw [hlx] at S8
        rw [hlx]
        clear hlx Hlx
        obtain ⟨b8, o8, rfl, hx8⟩ := S8.out.rd.at_ (k := 0) (by simp)
        simp only [Nat.add_zero, List.getElem?_cons_zero, Option.getD_some] at hx8
        go_wp2
        go_loop [9, 10, 11, 33, 34, 35, 36, 37, 38, 39, 40, 41, 42, 43, 44, 45, 46, 47, 48, 49, 50, 51, 52, 53, 54, 55, 56] (fun s9 s10 s11 _ _ _ _ _ _ _ _ _ _ _ _ _ _ _ _ _ _ _ _ _ _ _ _ => ∃ (j x : Nat) (P : List UInt8), s9 = .int .u32 x ∧ s10 = .string ⟨P.reverse.toArray⟩ ∧ s11 = .int .i64 j ∧ j ≤ 9 ∧ x < 10 ^ (9 - j) ∧ P.length = j ∧ Dig P ∧ dl P + 10 ^ P.length * (x + 10 ^ (9 - j) * q) = val cur ∧ (x = 0 → q = 0 → ∀ c, P.getLast? = some c → c ≠ 48)) (fun _ _ s11 _ _ _ _ _ _ _ _ _ _ _ _ _ _ _ _ _ _ _ _ _ _ _ _ => 9 - (intOf s11).toNat)
        case atStart => exact ⟨0, x0, [], rfl, rfl, rfl, by omega, (by have h := Hxx.out; simp <;> omega), rfl, dig_nil, by have h := Hv0.out; simp [dl]; omega, (fun _ _ c h => by cases h)⟩
        case round =>
          obtain ⟨j, x, P, rfl, rfl, rfl, hj, hx, hPj, hdigP, hvalP, htopP⟩ := hrel
          have HdigP := Lib.hid hdigP
          have HvalP := Lib.hid hvalP
          have HtopP := Lib.hid htopP
          have HPj := Lib.hid hPj
          have hPl : P.length ≤ 9 := by omega
          have hx9 : x < 1000000000 := Nat.lt_of_lt_of_le hx (Nat.pow_le_pow_right (n := 10) (by omega) (show 9 - j ≤ 9 by omega))
          clear hdigP hvalP htopP hPj
          by_cases hj9 : j < 9
          · by_cases hlq : 0 < lq.length
            · go_wp2
              go_round
              case rel => exact ⟨j + 1, x / 10, P ++ [dg x], by go_num, str_step x P, by go_num, hj9, text_lt hj9 hx, by rw [List.length_append, HPj.out]; rfl, dig_append HdigP.out (dig_one _), text_step' hj9 HPj.out HvalP.out, (fun _ hq0 => absurd (Hlq0.out.1 hlq) (by omega))⟩
              case measure => simp [intOf]; omega
            · by_cases hxp : 0 < x
              · go_wp2
                go_round
                case rel => exact ⟨j + 1, x / 10, P ++ [dg x], by go_num, str_step x P, by go_num, hj9, text_lt hj9 hx, by rw [List.length_append, HPj.out]; rfl, dig_append HdigP.out (dig_one _), text_step' hj9 HPj.out HvalP.out, (fun h0 _ => top_step hxp h0)⟩
                case measure => simp [intOf]; omega
              · have Hjq : Hid (x = 0 ∧ (j = 9 ∨ q = 0)) := ⟨by omega, .inr (by have h := Hlq0.out; omega)⟩
                go_wp2
                go_roundg q
                case measure => omega
                case rel => exact ⟨lq, A9, c9, D ++ P, Hvq.out.symm, str_join P D, rfl, Hql.out, hql, dig_append Hdig.out HdigP.out, by rw [List.length_append]; omega, by rw [Hvq.out]; exact text_join Hval.out HPj.out HvalP.out Hjq.out.1 Hjq.out.2, by rw [Hvq.out]; exact fun hq0 => top_join (ne_of_dl (by have h := HvalP.out; rw [Hjq.out.1, hq0] at h; simp at h; omega)) (HtopP.out Hjq.out.1 hq0), S9.out, K2.out, B2.out⟩
          · have Hjq : Hid (x = 0 ∧ (j = 9 ∨ q = 0)) := ⟨by rw [show 9 - j = 0 by omega] at hx; simpa using hx, .inl (by omega)⟩
            go_wp2
            go_roundg q
            case measure => omega
            case rel => exact ⟨lq, A9, c9, D ++ P, Hvq.out.symm, str_join P D, rfl, Hql.out, hql, dig_append Hdig.out HdigP.out, by rw [List.length_append]; omega, by rw [Hvq.out]; exact text_join Hval.out HPj.out HvalP.out Hjq.out.1 Hjq.out.2, by rw [Hvq.out]; exact fun hq0 => top_join (ne_of_dl (by have h := HvalP.out; rw [Hjq.out.1, hq0] at h; simp at h; omega)) (HtopP.out Hjq.out.1 hq0), S9.out, K2.out, B2.out⟩
    · obtain rfl := List.eq_nil_of_length_eq_zero (show cur.length = 0 by omega)
      have hDv : dl D = val l := by have h := Hval.out; simpa [val] using h
      have hS : D.reverse = decS (val l) := by
        unfold decS
        rw [← hDv, ← dec_eq Hdig.out (Htop.out rfl)]
      have hDn : 0 < (decS (val l)).length := by
        rcases hds : decS (val l) with _ | ⟨x, t⟩
        · have := decS_nil.1 hds; omega
        · simp
      have hiso : (decS (val l)).isEmpty = false := by rw [List.isEmpty_eq_false_iff]; intro h; rw [h] at hDn; simp at hDn
      have hSl : (decS (val l)).length ≤ 131081 := by rw [← hS, List.length_reverse]; exact hDb
      rw [hS]
      have HS := Lib.hid hS
      clear hS hDv
      generalize hSS : decS (val l) = SS at *
      have HSS := Lib.hid hSS
      clear hSS
      go_wp2
      go_ret2
      exact ⟨rfl, B.out⟩

set_option maxRecDepth 100000 in
set_option maxHeartbeats 4000000 in
theorem rtext_neg (A : Option Addr) (l : List Nat) (c : Nat) (w : World) (hs : Sl w A l c) (hbad : badL true l = false) (hl0 : 0 < val l) :
    Calls Tryz.prog 64 #[.agg #[.bool true, .slice A l.length c]] w (TRes (textS true l) w) := by
  have Hs := Lib.hid hs
  obtain ⟨k1, m1, p1⟩ := good_canon hs.lim hbad
  have hc := chk_good hbad
  have hr : textS true l = (45 :: decS (val l), 0) := by unfold textS textZ; rw [hbad, if_neg (by simp), if_neg (by omega)]; rfl
  rw [hr]
  obtain ⟨ee, hee, hvl⟩ : ∃ ee, ee ≤ 131072 ∧ val l < 2 ^ ee := ⟨32 * l.length, by omega, by
    have h1 := val_lt k1.1
    rw [show (4294967296 : Nat) = 2 ^ 32 by rfl, ← Nat.pow_mul] at h1
    exact h1⟩
  have Hvl := Lib.hid hvl
  have Hk1 := Lib.hid k1
  clear hr hbad hs hvl k1 p1
  go_enter Tryz.func64, Tryz.ntmps64
  go_wp2_with fail
  refine (rcheck_any true A l c _ (Hs.out.alloc _)).mono ?_
  rintro e w1 ⟨rfl, hb⟩
  have K : Hid (Cw w1 w.heap.size true A l.length c) := ⟨kept_cell hb (by go_simp), kept_cell hb (by go_simp)⟩
  have B : Hid (Below w.heap.size w w1) := below_mono (blw1 _ _) hb
  have S : Hid (Sl w1 A l c) := (Hs.out.alloc _).below hb
  clear hb
  obtain ⟨q0, q1⟩ := K.out
  go_wp2
  go_loopg [5, 6, 7, 8, 9, 10, 11] (val l) (fun gh s5 s6 _ _ _ _ _ wr => ∃ (cur : List Nat) (A6 : Option Addr) (c6 : Nat) (D : List UInt8), gh = val cur ∧ s5 = .string ⟨D.reverse.toArray⟩ ∧ s6 = .slice A6 cur.length c6 ∧ Canon cur ∧ cur.length ≤ 4096 ∧ Dig D ∧ D.length ≤ 131081 ∧ dl D + 10 ^ D.length * val cur = val l ∧ (val cur = 0 → ∀ c, D.getLast? = some c → c ≠ 48) ∧ Sl wr A6 cur c6 ∧ Cw wr w.heap.size true A l.length c ∧ Below w.heap.size w wr)
  case atStart => exact ⟨l, A, c, [], rfl, rfl, rfl, Hk1.out, m1, dig_nil, by simp, by simp [dl], (fun _ c h => by cases h), S.out, K.out, B.out⟩
  case round =>
    clear S K B q0 q1
    obtain ⟨cur, A6, c6, D, hgk, rfl, rfl, hkc, hcl, hdig, hDb, hval, htop, s6, k, b⟩ := hrel
    have Hkc := Lib.hid hkc
    have Hdig := Lib.hid hdig
    have Hval := Lib.hid hval
    have Htop := Lib.hid htop
    have S6 := Lib.hid s6
    have B := Lib.hid b
    have K := Lib.hid k
    obtain ⟨q0, q1⟩ := k
    clear hkc hdig hval s6 b htop
    by_cases hc0 : 0 < cur.length
    · have hpos := canon_val_pos Hkc.out hc0
      have hDl : D.length ≤ 131072 := by
        have h1 : 10 ^ D.length ≤ 10 ^ D.length * val cur := Nat.le_mul_of_pos_right _ hpos
        have h2 := Hval.out
        exact dig_len_le (Nat.lt_of_le_of_lt (by omega) Hvl.out) hee
      have hgq : val cur / 1000000000 < gk := by omega
      have hql : (limbs (val cur / 1000000000)).length ≤ 4096 := Nat.le_trans (canon_len_le (canon_limbs _) Hkc.out (by rw [val_limbs]; omega)) hcl
      have hsh := rshort_any A6 cur c6 1000000000 wr S6.out (by omega) (by omega) (by omega)
      have Hvq := Lib.hid (val_limbs (val cur / 1000000000))
      have Hlq0 : Hid (0 < (limbs (val cur / 1000000000)).length ↔ 0 < val cur / 1000000000) := limbs_len_pos
      have Hst : Hid (val cur % 1000000000 + 10 ^ 9 * (val cur / 1000000000) = val cur) := by unfold Hid; omega
      have hx0 : val cur % 1000000000 < 1000000000 := Nat.mod_lt _ (by omega)
      have Hlx : Hid (0 < val cur % 1000000000 → limbs (val cur % 1000000000) = [val cur % 1000000000]) := fun h => by
        rw [limbs_pos h, Nat.mod_eq_of_lt (by omega), Nat.div_eq_of_lt (by omega), limbs_zero]
      go_wp2_with fail
      refine hsh.mono ?_
      rintro e w4 ⟨A9, c9, A8, c8, rfl, hs9, hs8, hb⟩
      have S9 := Lib.hid hs9
      have S8 := Lib.hid hs8
      have K2 := Lib.hid (K.out.keep hb)
      have B2 := Lib.hid (below_mono B.out hb)
      clear hb hs9 hs8 hsh S6 K B q0 q1
      have Hql : Hid (Canon (limbs (val cur / 1000000000))) := canon_limbs _
      generalize limbs (val cur / 1000000000) = lq at *
      generalize val cur / 1000000000 = q at *
      generalize val cur % 1000000000 = x0 at *
      obtain ⟨q0, q1⟩ := K2.out
      have Hxx : Hid (x0 < 1000000000) := hx0
      have Hv0 : Hid (x0 + 10 ^ 9 * q = val cur) := Hst.out
      clear Hst
      rcases Nat.eq_zero_or_pos x0 with hx00 | hx00
      · subst hx00
        rw [limbs_zero]
        go_wp2
        go_loop [9, 10, 11, 33, 34, 35, 36, 37, 38, 39, 40, 41, 42, 43, 44, 45, 46, 47, 48, 49, 50, 51, 52, 53, 54, 55, 56] (fun s9 s10 s11 _ _ _ _ _ _ _ _ _ _ _ _ _ _ _ _ _ _ _ _ _ _ _ _ => ∃ (j x : Nat) (P : List UInt8), s9 = .int .u32 x ∧ s10 = .string ⟨P.reverse.toArray⟩ ∧ s11 = .int .i64 j ∧ j ≤ 9 ∧ x < 10 ^ (9 - j) ∧ P.length = j ∧ Dig P ∧ dl P + 10 ^ P.length * (x + 10 ^ (9 - j) * q) = val cur ∧ (x = 0 → q = 0 → ∀ c, P.getLast? = some c → c ≠ 48)) (fun _ _ s11 _ _ _ _ _ _ _ _ _ _ _ _ _ _ _ _ _ _ _ _ _ _ _ _ => 9 - (intOf s11).toNat)
        case atStart => exact ⟨0, 0, [], rfl, rfl, rfl, by omega, (by have h := Hxx.out; simp <;> omega), rfl, dig_nil, by have h := Hv0.out; simp [dl]; omega, (fun _ _ c h => by cases h)⟩
        case round =>
          obtain ⟨j, x, P, rfl, rfl, rfl, hj, hx, hPj, hdigP, hvalP, htopP⟩ := hrel
          have HdigP := Lib.hid hdigP
          have HvalP := Lib.hid hvalP
          have HtopP := Lib.hid htopP
          have HPj := Lib.hid hPj
          have hPl : P.length ≤ 9 := by omega
          have hx9 : x < 1000000000 := Nat.lt_of_lt_of_le hx (Nat.pow_le_pow_right (n := 10) (by omega) (show 9 - j ≤ 9 by omega))
          clear hdigP hvalP htopP hPj
          by_cases hj9 : j < 9
          · by_cases hlq : 0 < lq.length
            · go_wp2
              go_round
              case rel => exact ⟨j + 1, x / 10, P ++ [dg x], by go_num, str_step x P, by go_num, hj9, text_lt hj9 hx, by rw [List.length_append, HPj.out]; rfl, dig_append HdigP.out (dig_one _), text_step' hj9 HPj.out HvalP.out, (fun _ hq0 => absurd (Hlq0.out.1 hlq) (by omega))⟩
              case measure => simp [intOf]; omega
            · by_cases hxp : 0 < x
              · go_wp2
                go_round
                case rel => exact ⟨j + 1, x / 10, P ++ [dg x], by go_num, str_step x P, by go_num, hj9, text_lt hj9 hx, by rw [List.length_append, HPj.out]; rfl, dig_append HdigP.out (dig_one _), text_step' hj9 HPj.out HvalP.out, (fun h0 _ => top_step hxp h0)⟩
                case measure => simp [intOf]; omega
              · have Hjq : Hid (x = 0 ∧ (j = 9 ∨ q = 0)) := ⟨by omega, .inr (by have h := Hlq0.out; omega)⟩
                go_wp2
                go_roundg q
                case measure => omega
                case rel => exact ⟨lq, A9, c9, D ++ P, Hvq.out.symm, str_join P D, rfl, Hql.out, hql, dig_append Hdig.out HdigP.out, by rw [List.length_append]; omega, by rw [Hvq.out]; exact text_join Hval.out HPj.out HvalP.out Hjq.out.1 Hjq.out.2, by rw [Hvq.out]; exact fun hq0 => top_join (ne_of_dl (by have h := HvalP.out; rw [Hjq.out.1, hq0] at h; simp at h; omega)) (HtopP.out Hjq.out.1 hq0), S9.out, K2.out, B2.out⟩
          · have Hjq : Hid (x = 0 ∧ (j = 9 ∨ q = 0)) := ⟨by rw [show 9 - j = 0 by omega] at hx; simpa using hx, .inl (by omega)⟩
            go_wp2
            go_roundg q
            case measure => omega
            case rel => exact ⟨lq, A9, c9, D ++ P, Hvq.out.symm, str_join P D, rfl, Hql.out, hql, dig_append Hdig.out HdigP.out, by rw [List.length_append]; omega, by rw [Hvq.out]; exact text_join Hval.out HPj.out HvalP.out Hjq.out.1 Hjq.out.2, by rw [Hvq.out]; exact fun hq0 => top_join (ne_of_dl (by have h := HvalP.out; rw [Hjq.out.1, hq0] at h; simp at h; omega)) (HtopP.out Hjq.out.1 hq0), S9.out, K2.out, B2.out⟩
      · have hlx := Hlx.out hx00
        rw [hlx] at S8
        rw [hlx]
        clear hlx Hlx
        obtain ⟨b8, o8, rfl, hx8⟩ := S8.out.rd.at_ (k := 0) (by simp)
        simp only [Nat.add_zero, List.getElem?_cons_zero, Option.getD_some] at hx8
        go_wp2
        go_loop [9, 10, 11, 33, 34, 35, 36, 37, 38, 39, 40, 41, 42, 43, 44, 45, 46, 47, 48, 49, 50, 51, 52, 53, 54, 55, 56] (fun s9 s10 s11 _ _ _ _ _ _ _ _ _ _ _ _ _ _ _ _ _ _ _ _ _ _ _ _ => ∃ (j x : Nat) (P : List UInt8), s9 = .int .u32 x ∧ s10 = .string ⟨P.reverse.toArray⟩ ∧ s11 = .int .i64 j ∧ j ≤ 9 ∧ x < 10 ^ (9 - j) ∧ P.length = j ∧ Dig P ∧ dl P + 10 ^ P.length * (x + 10 ^ (9 - j) * q) = val cur ∧ (x = 0 → q = 0 → ∀ c, P.getLast? = some c → c ≠ 48)) (fun _ _ s11 _ _ _ _ _ _ _ _ _ _ _ _ _ _ _ _ _ _ _ _ _ _ _ _ => 9 - (intOf s11).toNat)
        case atStart => exact ⟨0, x0, [], rfl, rfl, rfl, by omega, (by have h := Hxx.out; simp <;> omega), rfl, dig_nil, by have h := Hv0.out; simp [dl]; omega, (fun _ _ c h => by cases h)⟩
        case round =>
          obtain ⟨j, x, P, rfl, rfl, rfl, hj, hx, hPj, hdigP, hvalP, htopP⟩ := hrel
          have HdigP := Lib.hid hdigP
          have HvalP := Lib.hid hvalP
          have HtopP := Lib.hid htopP
          have HPj := Lib.hid hPj
          have hPl : P.length ≤ 9 := by omega
          have hx9 : x < 1000000000 := Nat.lt_of_lt_of_le hx (Nat.pow_le_pow_right (n := 10) (by omega) (show 9 - j ≤ 9 by omega))
          clear hdigP hvalP htopP hPj
          by_cases hj9 : j < 9
          · by_cases hlq : 0 < lq.length
            · go_wp2
              go_round
              case rel => exact ⟨j + 1, x / 10, P ++ [dg x], by go_num, str_step x P, by go_num, hj9, text_lt hj9 hx, by rw [List.length_append, HPj.out]; rfl, dig_append HdigP.out (dig_one _), text_step' hj9 HPj.out HvalP.out, (fun _ hq0 => absurd (Hlq0.out.1 hlq) (by omega))⟩
              case measure => simp [intOf]; omega
            · by_cases hxp : 0 < x
              · go_wp2
                go_round
                case rel => exact ⟨j + 1, x / 10, P ++ [dg x], by go_num, str_step x P, by go_num, hj9, text_lt hj9 hx, by rw [List.length_append, HPj.out]; rfl, dig_append HdigP.out (dig_one _), text_step' hj9 HPj.out HvalP.out, (fun h0 _ => top_step hxp h0)⟩
                case measure => simp [intOf]; omega
              · have Hjq : Hid (x = 0 ∧ (j = 9 ∨ q = 0)) := ⟨by omega, .inr (by have h := Hlq0.out; omega)⟩
                go_wp2
                go_roundg q
                case measure => omega
                case rel => exact ⟨lq, A9, c9, D ++ P, Hvq.out.symm, str_join P D, rfl, Hql.out, hql, dig_append Hdig.out HdigP.out, by rw [List.length_append]; omega, by rw [Hvq.out]; exact text_join Hval.out HPj.out HvalP.out Hjq.out.1 Hjq.out.2, by rw [Hvq.out]; exact fun hq0 => top_join (ne_of_dl (by have h := HvalP.out; rw [Hjq.out.1, hq0] at h; simp at h; omega)) (HtopP.out Hjq.out.1 hq0), S9.out, K2.out, B2.out⟩
          · have Hjq : Hid (x = 0 ∧ (j = 9 ∨ q = 0)) := ⟨by rw [show 9 - j = 0 by omega] at hx; simpa using hx, .inl (by omega)⟩
            go_wp2
            go_roundg q
            case measure => omega
            case rel => exact ⟨lq, A9, c9, D ++ P, Hvq.out.symm, str_join P D, rfl, Hql.out, hql, dig_append Hdig.out HdigP.out, by rw [List.length_append]; omega, by rw [Hvq.out]; exact text_join Hval.out HPj.out HvalP.out Hjq.out.1 Hjq.out.2, by rw [Hvq.out]; exact fun hq0 => top_join (ne_of_dl (by have h := HvalP.out; rw [Hjq.out.1, hq0] at h; simp at h; omega)) (HtopP.out Hjq.out.1 hq0), S9.out, K2.out, B2.out⟩
    · obtain rfl := List.eq_nil_of_length_eq_zero (show cur.length = 0 by omega)
      have hDv : dl D = val l := by have h := Hval.out; simpa [val] using h
      have hS : D.reverse = decS (val l) := by
        unfold decS
        rw [← hDv, ← dec_eq Hdig.out (Htop.out rfl)]
      have hDn : 0 < (decS (val l)).length := by
        rcases hds : decS (val l) with _ | ⟨x, t⟩
        · have := decS_nil.1 hds; omega
        · simp
      have hiso : (decS (val l)).isEmpty = false := by rw [List.isEmpty_eq_false_iff]; intro h; rw [h] at hDn; simp at hDn
      have hSl : (decS (val l)).length ≤ 131081 := by rw [← hS, List.length_reverse]; exact hDb
      rw [hS]
      have HS := Lib.hid hS
      clear hS hDv
      generalize hSS : decS (val l) = SS at *
      have HSS := Lib.hid hSS
      clear hSS
      go_wp2
      go_ret2
      exact ⟨rfl, B.out⟩

set_option maxRecDepth 100000 in
set_option maxHeartbeats 4000000 in
theorem rtext_zero (A : Option Addr) (c : Nat) (w : World) :
    Calls Tryz.prog 64 #[.agg #[.bool false, .slice A 0 c]] w (TRes ([48], 0) w) := by
  obtain ⟨l, hl⟩ : ∃ l : List Nat, l = [] := ⟨[], rfl⟩
  have Hs : Hid (Sl w A l c) := by rw [hl]; exact Sl.nil _ _ _
  have hc : chk false l = 0 := by rw [hl]; exact chk_good rfl
  have hl2 : l.length = 0 := by rw [hl]; rfl
  rw [show (0 : Nat) = l.length from hl2.symm]
  have Hl2 := Lib.hid hl2
  clear hl hl2
  go_enter Tryz.func64, Tryz.ntmps64
  go_wp2_with fail
  refine (rcheck_any false A l c _ (Hs.out.alloc _)).mono ?_
  rintro e w1 ⟨rfl, hb⟩
  have K : Hid (Cw w1 w.heap.size false A l.length c) := ⟨kept_cell hb (by go_simp), kept_cell hb (by go_simp)⟩
  have B : Hid (Below w.heap.size w w1) := below_mono (blw1 _ _) hb
  have S : Hid (Sl w1 A l c) := (Hs.out.alloc _).below hb
  clear hb
  obtain ⟨q0, q1⟩ := K.out
  go_wp2
  rw [Hl2.out] at *
  go_loopg [5, 6, 7, 8, 9, 10, 11] 0 (fun _ s5 s6 _ _ _ _ _ wr => s5 = .string ⟨#[]⟩ ∧ s6 = .slice A 0 c ∧ w1 = wr)
  case atStart => exact ⟨rfl, rfl, rfl⟩
  case round =>
    obtain ⟨rfl, rfl, rfl⟩ := hrel
    go_wp2
    go_ret2
    exact ⟨rfl, B.out⟩

set_option maxRecDepth 100000 in
set_option maxHeartbeats 4000000 in
theorem rtext_any (n : Bool) (A : Option Addr) (l : List Nat) (c : Nat) (w : World) (hs : Sl w A l c) :
    Calls Tryz.prog 64 #[.agg #[.bool n, .slice A l.length c]] w (TRes (textS n l) w) := by
  cases hbad : badL n l with
  | false =>
    obtain ⟨k1, m1, p1⟩ := good_canon hs.lim hbad
    by_cases h0 : 0 < val l
    · cases n with
      | false => exact rtext_pos A l c w hs hbad h0
      | true => exact rtext_neg A l c w hs hbad h0
    · have hl : l = [] := by
        rcases l with _ | ⟨x, t⟩
        · rfl
        · exact absurd (canon_val_pos k1 (by simp)) h0
      subst hl
      cases n with
      | true => exact absurd (p1 rfl) (by simp)
      | false => exact rtext_zero A c w
  | true =>
    have Hs := Lib.hid hs
    have hr : textS n l = ([], 8) := by unfold textS; rw [hbad, if_pos rfl]
    have hc := chk_bad hbad
    rw [hr]
    clear hr hbad hs
    go_enter Tryz.func64, Tryz.ntmps64
    go_wp2_with fail
    refine (rcheck_any n A l c _ (Hs.out.alloc _)).mono ?_
    rintro e w1 ⟨rfl, hb⟩
    have K : Hid (Cw w1 w.heap.size n A l.length c) := ⟨kept_cell hb (by go_simp), kept_cell hb (by go_simp)⟩
    have B : Hid (Below w.heap.size w w1) := below_mono (blw1 _ _) hb
    have S : Hid (Sl w1 A l c) := (Hs.out.alloc _).below hb
    clear hb
    obtain ⟨q0, q1⟩ := K.out
    go_wp2_with fail
    refine (rcheck_any n A l c _ S.out).mono ?_
    rintro e w2 ⟨rfl, hb⟩
    have B2 := Lib.hid (below_mono B.out hb)
    clear hb q0 q1
    go_wp2
    go_ret2
    exact ⟨rfl, B2.out⟩

end Go.Proofs.YtmelbahbjdogdaaGreatDoor

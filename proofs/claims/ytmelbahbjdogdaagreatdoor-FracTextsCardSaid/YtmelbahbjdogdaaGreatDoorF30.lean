/- Walks: the reference's split, value, ten. -/
import Derived.Test.YtmelbahbjdogdaaGreatDoorF3
import Derived.Test.YtmelbahbjdogdaaGreatDoorFMathB
import Derived.Test.YtmelbahbjdogdaaGreatDoorW51
import Derived.Test.YtmelbahbjdogdaaGreatDoorW42
import Derived.RegionTactic
namespace Go.Proofs.YtmelbahbjdogdaaGreatDoor
open Go.RowKit Go.Lib
attribute [local go_sem ↓] Go.wp_at_zero Go.wp_at_succ
theorem head_at {l : List UInt8} {k : Nat} (h : ∀ c ∈ l.take k, isD c = true) (h2 : ∀ c t, l.drop k = c :: t → isD c = false) : headD l = l.take k ∧ tailD l = l.drop k := by
  have hd : Dig (l.take k) := fun c hc => isD_iff.1 (h c hc)
  have := headD_app hd h2
  rwa [List.take_append_drop] at this

/-- Digits without a zero in front, or one digit. -/
theorem num_parse2 {l : List UInt8} (h : Dig l) (hne : l ≠ []) (hl : l.length ≤ 3000) (hz : l.length = 1 ∨ ∀ c t, l = c :: t → c ≠ 48) : parseS l = (wOf ((dv l : Nat) : Int), 0) := by
  cases l with
  | nil => exact absurd rfl hne
  | cons c t =>
    have hc := (dig_cons.1 h).1
    have h45 : c ≠ 45 := by rintro rfl; have : (45 : UInt8).toNat = 45 := rfl; omega
    have hf := fit_dv h hl
    unfold parseS parOk
    rw [tp_ne h45, hp_ne h45, digB_iff.2 h]
    have hg : (!((c :: t).head? == some 48) || c :: t == [48]) = true := by
      rcases hz with hz | hz
      · have ht : t = [] := by simpa using hz
        subst ht
        by_cases h48 : c = 48
        · subst h48; rfl
        · simp
      · simp [hz c t rfl]
    rw [hg]
    simp only [List.isEmpty_cons, Bool.not_false, Bool.true_and, if_true]
    have := outN_false (dv (c :: t))
    rw [this]
    exact outZ_is hf

set_option maxRecDepth 100000 in
set_option maxHeartbeats 2000000 in
theorem split_any (l : List UInt8) (hl : l.length ≤ 3000) (w : World) :
    Calls Tryz.prog 58 #[.string ⟨l.toArray⟩] w fun e w' => e = .returned (.tuple #[.string ⟨(headD l).toArray⟩, .string ⟨(tailD l).toArray⟩]) ∧ Below w.heap.size w w' := by
  have hsz : (ByteArray.mk l.toArray).size = l.length := by simp [ByteArray.size]
  obtain ⟨H, hH⟩ : ∃ H, H = headD l := ⟨_, rfl⟩
  obtain ⟨T, hT⟩ : ∃ T, T = tailD l := ⟨_, rfl⟩
  rw [← hH, ← hT]
  have HH := Lib.hid hH
  have HT := Lib.hid hT
  clear hH hT
  go_enter Tryz.func58, Tryz.ntmps58
  go_wp2
  go_loop [4] (fun iv => ∃ k : Nat, k ≤ l.length ∧ iv = .int .i64 k ∧ ∀ c ∈ l.take k, isD c = true) (fun iv => l.length - (intOf iv).toNat)
  case atStart => exact ⟨0, Nat.zero_le _, rfl, by simp⟩
  case round =>
    obtain ⟨k, hk, rfl, hall⟩ := hrel
    have Hall := Lib.hid hall
    clear hall
    by_cases hlt : k < l.length
    · have hgk : (ByteArray.mk l.toArray)[k]'(by rw [hsz]; exact hlt) = l[k]'hlt := rfl
      have Htk : Hid (l.take (k + 1) = l.take k ++ [l[k]'hlt]) := (List.take_append_getElem hlt).symm
      have Hdr : Hid (l.drop k = l[k]'hlt :: l.drop (k + 1)) := List.drop_eq_getElem_cons hlt
      generalize l[k]'hlt = x at *
      by_cases hx : 48 ≤ x.toNat ∧ x.toNat ≤ 57
      · have dx1 : decide ((48 : Int) ≤ (x.toNat : Int)) = true := decide_eq_true (by omega)
        have dx2 : decide ((x.toNat : Int) ≤ 57) = true := decide_eq_true (by omega)
        have dx3 : decide (48 ≤ x.toNat) = true := decide_eq_true (by omega)
        have dx4 : decide (x.toNat ≤ 57) = true := decide_eq_true (by omega)
        have HX := Lib.hid hx
        clear hx
        go_wp2
        go_round
        case rel => exact ⟨k + 1, by omega, by go_num, fun c hc => by
          rw [Htk.out] at hc
          rcases List.mem_append.1 hc with hc | hc
          · exact Hall.out c hc
          · rw [List.mem_singleton] at hc; subst hc; exact isD_iff.2 HX.out⟩
        case measure => simp [intOf]; omega
      · have hE : Hid (H = l.take k ∧ T = l.drop k) := by
          rw [Hid, HH.out, HT.out]
          exact head_at Hall.out (fun c t e => by
            rw [Hdr.out] at e
            cases e
            cases hd : isD x with
            | false => rfl
            | true => exact absurd (isD_iff.1 hd) hx)
        by_cases h1 : 48 ≤ x.toNat
        · have dx1 : decide ((48 : Int) ≤ (x.toNat : Int)) = true := decide_eq_true (by omega)
          have dx2 : decide ((x.toNat : Int) ≤ 57) = false := decide_eq_false (by omega)
          have dx3 : decide (48 ≤ x.toNat) = true := decide_eq_true (by omega)
          have dx4 : decide (x.toNat ≤ 57) = false := decide_eq_false (by omega)
          clear hx
          go_wp2_with fail
          go_region
          all_goals
            go_wp2
            go_ret2
            exact ⟨by rw [hE.out.1, hE.out.2, ext_take, ext_drop]; rfl, (Below.refl _ _).drew⟩
        · have dx1 : decide ((48 : Int) ≤ (x.toNat : Int)) = false := decide_eq_false (by omega)
          have dx3 : decide (48 ≤ x.toNat) = false := decide_eq_false (by omega)
          clear hx
          go_wp2_with fail
          go_region
          all_goals
            go_wp2
            go_ret2
            exact ⟨by rw [hE.out.1, hE.out.2, ext_take, ext_drop]; rfl, (Below.refl _ _).drew⟩
    · obtain rfl : k = l.length := by omega
      have hE : Hid (H = l ∧ T = []) := by
        rw [Hid, HH.out, HT.out]
        have h := head_at Hall.out (fun c t e => by rw [List.drop_length] at e; cases e)
        rwa [List.take_length, List.drop_length] at h
      go_wp2_with fail
      go_region
      all_goals
        go_wp2
        go_ret2
        exact ⟨by rw [hE.out.1, hE.out.2, ext_take, List.take_length]; rfl, (Below.refl _ _).drew⟩

set_option maxRecDepth 100000 in
set_option maxHeartbeats 2000000 in
theorem rvalue_any (l : List UInt8) (hd : Dig l) (hne : l ≠ []) (hl : l.length ≤ 3000) (w : World) :
    Calls Tryz.prog 59 #[.string ⟨l.toArray⟩] w (WRes1 (wOf ((dv l : Nat) : Int)) w) := by
  obtain ⟨⟨nv, lv⟩, hv⟩ : ∃ p, p = wOf ((dv l : Nat) : Int) := ⟨_, rfl⟩
  rw [← hv]
  have Hv := Lib.hid hv
  have Hd := Lib.hid hd
  have Hne := Lib.hid hne
  clear hv hd hne
  have B : Hid (Below w.heap.size w w) := Below.refl _ _
  go_enter Tryz.func59, Tryz.ntmps59
  go_wp2
  have Fo : Hid (Fw (w.alloc (.cells #[.bool false, .slice none 0 0] 24)) w.heap.size) := (Fw.fresh (by simp) _ _)
  have Ko : Hid (Cw (w.alloc (.cells #[.bool false, .slice none 0 0] 24)) w.heap.size false none 0 0) := (Cw.fresh (by simp) _ _ _ _ _)
  replace B : Hid (Below w.heap.size w (w.alloc (.cells #[.bool false, .slice none 0 0] 24))) := (below_mono B.out (blw1 _ _))
  generalize w.alloc (.cells #[.bool false, .slice none 0 0] 24) = wz at *
  go_loopg [0] l.length (fun gh s0 wr => ∃ m : List UInt8, s0 = .string ⟨m.toArray⟩ ∧ gh = m.length ∧ m ≠ [] ∧ Dig m ∧ dv m = dv l ∧ m.length ≤ l.length ∧ wr = wz)
  case atStart => exact ⟨l, rfl, rfl, Hne.out, Hd.out, rfl, Nat.le_refl _, rfl⟩
  case round =>
    obtain ⟨m, rfl, rfl, hm1, hm2, hm3, hm4, rfl⟩ := hrel
    have M3 := Lib.hid hm3
    have M2 := Lib.hid hm2
    cases m with
    | nil => exact absurd rfl hm1
    | cons c t =>
    have hm4 : t.length + 1 ≤ l.length := by simpa using hm4
    have hget : (ByteArray.mk (c :: t).toArray)[0]'(by simp [ByteArray.size]) = c := rfl
    have hsz : (ByteArray.mk (c :: t).toArray).size = t.length + 1 := by simp [ByteArray.size]
    have hext : (ByteArray.mk (c :: t).toArray).extract 1 (t.length + 1) = ⟨t.toArray⟩ := by apply ByteArray.ext; simp [ByteArray.data_extract]
    clear hm1 hm2 hm3
    by_cases ht : 0 < t.length
    · by_cases hc : c = 48
      · have hc2 : ((c.toNat : Int) == 48) = true := by rw [hc]; rfl
        have HC := Lib.hid hc
        have hlt : Hid (t.length < (c :: t).length) := by rw [Hid]; simp
        clear hc
        go_wp2
        go_roundg t.length
        case measure => simp
        case rel => exact ⟨t, rfl, rfl, fun e => by rw [e] at ht; simp at ht, (dig_cons.1 M2.out).2, by rw [← M3.out, HC.out, dv_zero_cons], by omega, rfl⟩
      · have hc2 : ((c.toNat : Int) == 48) = false := by rw [beq_eq_false_iff_ne]; intro e; exact hc (UInt8.toNat_inj.1 (by have : (48 : UInt8).toNat = 48 := rfl; omega))
        have HP : Hid (parseS (c :: t) = ((nv, lv), 0)) := by rw [Hid, num_parse2 M2.out (by simp) (by rw [List.length_cons]; omega) (.inr (fun a b e => by cases e; exact hc)), M3.out, ← Hv.out]
        clear hc
        go_wp2_with fail
        refine (rparse_any (c :: t) _ (by rw [List.length_cons]; omega)).mono ?_
        rw [HP.out]
        rintro e w1 ⟨A1, c1, rfl, hs1, hb⟩
        replace Fo := kFw Fo Ko hb
        replace Ko := kW Ko hb
        replace B := kB B hb
        clear hb
        (try dsimp only at hs1)
        (try dsimp only)
        have Sv : Hid (Sl w1 A1 lv c1) := hs1
        clear hs1
        obtain ⟨qo0, qo1⟩ := Ko.out
        obtain ⟨fo0, fo1⟩ := Fo.out
        have hzo := lW Ko
        have hkov := hzo
        go_wp2
        exact bodyPost_ret (v := .agg #[.bool nv, .slice A1 lv.length c1]) (by simp [results, Tryz.results59, go_sem, qo0, qo1, hzo]) rfl (wres1_store (r := (nv, lv)) Sv.out ⟨qo0, qo1⟩ B.out (by omega) _ _ _)
    · have HP : Hid (parseS (c :: t) = ((nv, lv), 0)) := by rw [Hid, num_parse2 M2.out (by simp) (by rw [List.length_cons]; omega) (.inl (by rw [List.length_cons]; omega)), M3.out, ← Hv.out]
      go_wp2_with fail
      refine (rparse_any (c :: t) _ (by rw [List.length_cons]; omega)).mono ?_
      rw [HP.out]
      rintro e w1 ⟨A1, c1, rfl, hs1, hb⟩
      replace Fo := kFw Fo Ko hb
      replace Ko := kW Ko hb
      replace B := kB B hb
      clear hb
      (try dsimp only at hs1)
      (try dsimp only)
      have Sv : Hid (Sl w1 A1 lv c1) := hs1
      clear hs1
      obtain ⟨qo0, qo1⟩ := Ko.out
      obtain ⟨fo0, fo1⟩ := Fo.out
      have hzo := lW Ko
      have hkov := hzo
      go_wp2
      exact bodyPost_ret (v := .agg #[.bool nv, .slice A1 lv.length c1]) (by simp [results, Tryz.results59, go_sem, qo0, qo1, hzo]) rfl (wres1_store (r := (nv, lv)) Sv.out ⟨qo0, qo1⟩ B.out (by omega) _ _ _)

set_option maxRecDepth 100000 in
set_option maxHeartbeats 2000000 in
theorem rten_any (k : Nat) (hk : k ≤ 1000) (w : World) :
    Calls Tryz.prog 60 #[.int .i64 (k : Int)] w (WRes1 (p10 k) w) := by
  obtain ⟨⟨nt, lt⟩, ht⟩ : ∃ p, p = wOf (10 : Int) := ⟨_, rfl⟩
  have vt := vz_mk ht (fit_ten (k := 1) (by decide) (by omega))
  obtain ⟨⟨nv, lv⟩, hv⟩ : ∃ p, p = p10 k := ⟨_, rfl⟩
  have hF : Hid (∀ W, Calls Tryz.prog 30 #[.int .i64 10] W (WRes1 (nt, lt) W)) := fun W => by rw [ht]; exact rfrom_any 10 W (by omega) (by omega)
  have e1 : Hid (powS nt lt (k : Int) = ((nv, lv), 0)) := by rw [hv]; exact powS_z vt hk (fit_pow10 (by omega))
  rw [← hv]
  clear ht vt hv
  have B : Hid (Below w.heap.size w w) := Below.refl _ _
  go_enter Tryz.func60, Tryz.ntmps60
  go_wp2_with fail
  refine (hF.out _).mono ?_
  rintro e w1 ⟨A1, c1, rfl, hs1, hb⟩
  have Fo : Hid (Fw w1 w.heap.size) := Fw.keep (Fw.fresh (by simp) _ _) (Cw.fresh (by simp) _ _ _ _ _) hb
  have Ko : Hid (Cw w1 w.heap.size false none 0 0) := Cw.keep (Cw.fresh (by simp) _ _ _ _ _) hb
  replace B := kB1 B hb
  clear hb
  (try dsimp only at hs1)
  (try dsimp only)
  have St : Hid (Sl w1 A1 lt c1) := hs1
  clear hs1
  have hzo := lW Ko
  go_wp2_with fail
  refine (rpow_any nt _ lt _ (k : Int) _ St.out).mono ?_
  rw [e1.out]
  rintro e w2 ⟨A2, c2, rfl, hs2, hb⟩
  replace St := kS St hb
  replace Fo := kFw Fo Ko hb
  replace Ko := kW Ko hb
  replace B := kB B hb
  clear hb
  (try dsimp only at hs2)
  (try dsimp only)
  have Sv : Hid (Sl w2 A2 lv c2) := hs2
  clear hs2
  obtain ⟨qo0, qo1⟩ := Ko.out
  obtain ⟨fo0, fo1⟩ := Fo.out
  replace hzo := lW Ko
  have hkov := hzo
  go_wp2
  exact bodyPost_ret (v := .agg #[.bool nv, .slice A2 lv.length c2]) (by simp [results, Tryz.results60, go_sem, qo0, qo1, hzo]) rfl (wres1_store (r := (nv, lv)) Sv.out ⟨qo0, qo1⟩ B.out (by omega) _ _ _)

end Go.Proofs.YtmelbahbjdogdaaGreatDoor

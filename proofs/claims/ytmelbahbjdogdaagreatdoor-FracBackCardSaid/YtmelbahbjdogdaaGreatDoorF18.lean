/- Walks: frac.form, digits, value. -/
import Derived.Test.YtmelbahbjdogdaaGreatDoorShelf
import Derived.Test.YtmelbahbjdogdaaGreatDoorF3
import Derived.Test.YtmelbahbjdogdaaGreatDoorFMath
import Derived.Test.YtmelbahbjdogdaaGreatDoorW50
import Derived.Test.YtmelbahbjdogdaaGreatDoorF16
import Derived.Shelf.Strings.SlTrimAscii
namespace Go.Proofs.YtmelbahbjdogdaaGreatDoor
open Go.RowKit Go.Shelf Go.Lib
attribute [local go_sem ↓] Go.wp_at_zero Go.wp_at_succ
theorem form_ok (w : World) :
    Calls Tryz.prog 47 #[.bool true] w fun e w' => e = .returned (.tuple #[]) ∧ Below w.heap.size w w' := by
  go_enter Tryz.func47, Tryz.ntmps47
  go_wp2
  go_end0
  exact ⟨rfl, Below.refl _ _⟩

theorem form_bad (w : World) :
    Calls Tryz.prog 47 #[.bool false] w fun e w' => e = fallE 12 ∧ Below w.heap.size w w' := by
  go_enter Tryz.func47, Tryz.ntmps47
  go_wp2_with fail
  refine (want_bad 12 (by decide) _).mono ?_
  rintro e w1 ⟨rfl, hb⟩
  exact ⟨rfl, rfl, hb⟩

theorem trimD_any (l : List UInt8) (w : World) :
    Calls Tryz.prog 98 #[.string ⟨l.toArray⟩, .string ⟨#[48, 49, 50, 51, 52, 53, 54, 55, 56, 57]⟩] w fun e w' => e = .returned (.string ⟨(tailD l).toArray⟩) ∧ Below w.heap.size w w' := by
  have h := Any.strings_TrimLeft_laid Tryz.lays161 (by kernel_rfl) ⟨l.toArray⟩ ⟨#[48, 49, 50, 51, 52, 53, 54, 55, 56, 57]⟩ w (by decide) (ascii_of_all (by decide))
  change Calls Tryz.prog 98 _ _ (fun e w' => e = .returned (.string ⟨(Lib.trimLeftS l [48, 49, 50, 51, 52, 53, 54, 55, 56, 57]).toArray⟩) ∧ Below w.heap.size w w') at h
  rw [trim_digits] at h
  exact h

theorem trim0_any (l : List UInt8) (w : World) :
    Calls Tryz.prog 98 #[.string ⟨l.toArray⟩, .string ⟨#[48]⟩] w fun e w' => e = .returned (.string ⟨(Lib.trimLeftB l 48).toArray⟩) ∧ Below w.heap.size w w' := by
  have h := Tryz.strings_TrimLeft_one ⟨l.toArray⟩ 48 (by decide) w
  refine h.mono ?_
  rintro e w' ⟨rfl, rfl⟩
  exact ⟨rfl, Below.refl _ _⟩

set_option maxRecDepth 100000 in
set_option maxHeartbeats 1000000 in
theorem digits_any (l : List UInt8) (hl : l.length ≤ 3000) (w : World) :
    Calls Tryz.prog 49 #[.string ⟨l.toArray⟩] w fun e w' => e = .returned (.tuple #[.string ⟨(headD l).toArray⟩, .string ⟨(tailD l).toArray⟩]) ∧ Below w.heap.size w w' := by
  have h2 := headD_len l
  have he := Lib.hid (headD_eq l)
  have hT : Hid (∀ W, Calls Tryz.prog 98 #[.string ⟨l.toArray⟩, .string ⟨#[48, 49, 50, 51, 52, 53, 54, 55, 56, 57]⟩] W fun e w' => e = .returned (.string ⟨(tailD l).toArray⟩) ∧ Below W.heap.size W w') := fun W => trimD_any l W
  generalize tailD l = t at *
  generalize headD l = h at *
  have h3 : t.length ≤ l.length := by omega
  clear h2
  go_enter Tryz.func49, Tryz.ntmps49
  go_wp2_with fail
  refine (hT.out _).mono ?_
  rintro e w1 ⟨rfl, hb⟩
  have Hb := Lib.hid hb
  clear hb
  go_wp2
  go_ret2
  exact ⟨by rw [ext_take, ← he.out]; rfl, Hb.out⟩

set_option maxRecDepth 100000 in
set_option maxHeartbeats 1000000 in
theorem value_any (l : List UInt8) (hd : Dig l) (hl : l.length ≤ 3000 - 1) (w : World) :
    Calls Tryz.prog 50 #[.string ⟨l.toArray⟩] w (WRes1 (wOf ((dv l : Nat) : Int)) w) := by
  have hp : Hid (parseS (numS l) = (wOf ((dv l : Nat) : Int), 0)) := num_parse hd (by omega)
  have hn : (numS l).length ≤ 3000 := Nat.le_trans numS_len (by omega)
  have hT : Hid (∀ W, Calls Tryz.prog 98 #[.string ⟨l.toArray⟩, .string ⟨#[48]⟩] W fun e w' => e = .returned (.string ⟨(Lib.trimLeftB l 48).toArray⟩) ∧ Below W.heap.size W w') := fun W => trim0_any l W
  have B : Hid (Below w.heap.size w w) := Below.refl _ _
  unfold numS at hp hn
  generalize Lib.trimLeftB l 48 = t at *
  obtain ⟨nv, lv, hv⟩ : ∃ n k, wOf ((dv l : Nat) : Int) = (n, k) := ⟨_, _, rfl⟩
  rw [hv] at hp ⊢
  clear hv hd
  cases t with
  | nil =>
    rw [if_pos (by rfl)] at hp hn
    go_enter Tryz.func50, Tryz.ntmps50
    go_wp2_with fail
    refine (hT.out _).mono ?_
    rintro e w1 ⟨rfl, hb⟩
    have Fo : Hid (Fw w1 w.heap.size) := Fw.keep (Fw.fresh (by simp) _ _) (Cw.fresh (by simp) _ _ _ _ _) hb
    have Ko : Hid (Cw w1 w.heap.size false none 0 0) := Cw.keep (Cw.fresh (by simp) _ _ _ _ _) hb
    replace B := kB1 B hb
    clear hb
    obtain ⟨qo0, qo1⟩ := Ko.out
    obtain ⟨fo0, fo1⟩ := Fo.out
    have hzo := lW Ko
    go_wp2_with fail
    refine (wparse_any [48] _ hn).mono ?_
    rw [hp.out]
    rintro e w2 ⟨A2, c2, rfl, hsv, hb⟩
    clear qo0 qo1 fo0 fo1
    replace Fo := kFw Fo Ko hb
    replace Ko := kW Ko hb
    replace B := kB B hb
    clear hb
    (try dsimp only at hsv)
    (try dsimp only)
    have Sv : Hid (Sl w2 A2 lv c2) := hsv
    clear hsv
    obtain ⟨qo0, qo1⟩ := Ko.out
    obtain ⟨fo0, fo1⟩ := Fo.out
    replace hzo := lW Ko
    go_wp2_with fail
    refine (must_ok nv A2 lv.length c2 _).mono ?_
    rintro e w3 ⟨rfl, hb⟩
    clear qo0 qo1 fo0 fo1
    replace Sv := kS Sv hb
    replace Fo := kFw Fo Ko hb
    replace Ko := kW Ko hb
    replace B := kB B hb
    clear hb
    obtain ⟨qo0, qo1⟩ := Ko.out
    obtain ⟨fo0, fo1⟩ := Fo.out
    replace hzo := lW Ko
    go_wp2
    exact bodyPost_ret (v := .agg #[.bool nv, .slice A2 lv.length c2]) (by simp [results, Tryz.results50, go_sem, qo0, qo1]) rfl ⟨A2, c2, rfl, Sv.out.setW qo0 qo1 _ _, below_setW B.out (by omega) _ _⟩
  | cons b r =>
    rw [if_neg (by simp)] at hp hn
    go_enter Tryz.func50, Tryz.ntmps50
    go_wp2_with fail
    refine (hT.out _).mono ?_
    rintro e w1 ⟨rfl, hb⟩
    have Fo : Hid (Fw w1 w.heap.size) := Fw.keep (Fw.fresh (by simp) _ _) (Cw.fresh (by simp) _ _ _ _ _) hb
    have Ko : Hid (Cw w1 w.heap.size false none 0 0) := Cw.keep (Cw.fresh (by simp) _ _ _ _ _) hb
    replace B := kB1 B hb
    clear hb
    obtain ⟨qo0, qo1⟩ := Ko.out
    obtain ⟨fo0, fo1⟩ := Fo.out
    have hzo := lW Ko
    go_wp2_with fail
    refine (wparse_any (b :: r) _ hn).mono ?_
    rw [hp.out]
    rintro e w2 ⟨A2, c2, rfl, hsv, hb⟩
    clear qo0 qo1 fo0 fo1
    replace Fo := kFw Fo Ko hb
    replace Ko := kW Ko hb
    replace B := kB B hb
    clear hb
    (try dsimp only at hsv)
    (try dsimp only)
    have Sv : Hid (Sl w2 A2 lv c2) := hsv
    clear hsv
    obtain ⟨qo0, qo1⟩ := Ko.out
    obtain ⟨fo0, fo1⟩ := Fo.out
    replace hzo := lW Ko
    go_wp2_with fail
    refine (must_ok nv A2 lv.length c2 _).mono ?_
    rintro e w3 ⟨rfl, hb⟩
    clear qo0 qo1 fo0 fo1
    replace Sv := kS Sv hb
    replace Fo := kFw Fo Ko hb
    replace Ko := kW Ko hb
    replace B := kB B hb
    clear hb
    obtain ⟨qo0, qo1⟩ := Ko.out
    obtain ⟨fo0, fo1⟩ := Fo.out
    replace hzo := lW Ko
    go_wp2
    exact bodyPost_ret (v := .agg #[.bool nv, .slice A2 lv.length c2]) (by simp [results, Tryz.results50, go_sem, qo0, qo1]) rfl ⟨A2, c2, rfl, Sv.out.setW qo0 qo1 _ _, below_setW B.out (by omega) _ _⟩

end Go.Proofs.YtmelbahbjdogdaaGreatDoor
/- Walks: powers of ten (frac.ten, the reference's ten). -/
namespace Go.Proofs.YtmelbahbjdogdaaGreatDoor
open Go.RowKit
attribute [local go_sem ↓] Go.wp_at_zero Go.wp_at_succ
set_option maxRecDepth 100000 in
set_option maxHeartbeats 2000000 in
theorem ten_any (k : Nat) (hk : k ≤ 3000) (w : World) :
    Calls Tryz.prog 55 #[.int .i64 (k : Int)] w (WRes1 (p10 k) w) := by
  have hF : Hid (∀ W, Calls Tryz.prog 92 #[.int .i64 10] W (WRes1 (wOf 10) W)) := fun W => from_any 10 W (by omega) (by omega)
  have hO : Hid (∀ W, Calls Tryz.prog 51 #[] W (WRes1 (p10 0) W)) := fun W => by rw [p10_zero]; exact one_any W
  have hM : Hid (∀ j, j < k → mulS (p10 j).1 (p10 j).2 (wOf 10).1 (wOf 10).2 = (p10 (j + 1), 0)) := fun j hj => p10_mul (by omega)
  have B : Hid (Below w.heap.size w w) := Below.refl _ _
  go_enter Tryz.func55, Tryz.ntmps55
  go_wp2_with fail
  refine (hO.out _).mono ?_
  rintro e w1 ⟨A5, c5, rfl, hs5, hb⟩
  have Fo' : Hid (Fw w1 w.heap.size) := Fw.keep (Fw.fresh (by simp) _ _) (Cw.fresh (by simp) _ _ _ _ _) hb
  have Ko' : Hid (Cw w1 w.heap.size false none 0 0) := Cw.keep (Cw.fresh (by simp) _ _ _ _ _) hb
  have B' : Hid (Below w.heap.size w w1) := below_mono (below_mono B.out (blw1 _ _)) hb
  clear hb B
  have Fo := Fo'
  have Ko := Ko'
  have B := B'
  clear Fo' Ko' B'
  (try dsimp only at hs5)
  (try dsimp only)
  have S5 : Hid (Sl w1 A5 (p10 0).2 c5) := hs5
  clear hs5
  obtain ⟨qo0, qo1⟩ := Ko.out
  obtain ⟨fo0, fo1⟩ := Fo.out
  have hzo : w.heap.size < w1.heap.size := lt_of_cell (a := ⟨w.heap.size, 0, none⟩) Ko.out.1
  go_wp2
  generalize hg6 : w1.heap.size = g6 at *
  go_loopw [6] (fun i wr => ∃ (j : Nat) (A6 : Option Addr) (c6 : Nat), i = .int .i64 j ∧ j ≤ k ∧ Cw wr g6 (p10 j).1 A6 (p10 j).2.length c6 ∧ Fw wr g6 ∧ Sl wr A6 (p10 j).2 c6 ∧ Cw wr w.heap.size false none 0 0 ∧ Fw wr w.heap.size ∧ Below w.heap.size w wr) (fun i _ => k - (intOf i).toNat)
  case atStart => exact ⟨0, A5, c5, rfl, Nat.zero_le _, Cw.fresh hg6.symm _ _ _ _ _, Fw.fresh hg6.symm _ _, S5.out.alloc _, Cw.keep Ko.out (blw1 _ _), Fw.alloc Fo.out Ko.out _, below_mono B.out (blw1 _ _)⟩
  case round =>
    clear S5 Ko Fo B qo0 qo1 fo0 fo1
    obtain ⟨j, A6, c6, rfl, hj, k6, f6, s6, r, f, b⟩ := hrel
    have Kq := Lib.hid k6
    have Fq := Lib.hid f6
    have Sq := Lib.hid s6
    have Ko := Lib.hid r
    have Fo := Lib.hid f
    have B := Lib.hid b
    clear k6 f6 s6 r f b
    by_cases hlt : j < k
    · have e6 := Lib.hid (hM.out j hlt)
      clear hM hO
      generalize hpn : p10 (j + 1) = pn at *
      generalize p10 j = pj at *
      generalize wOf 10 = pt at *
      obtain ⟨nj, lj⟩ := pj
      obtain ⟨nn, ln⟩ := pn
      obtain ⟨nt, lt⟩ := pt
      dsimp only at *
      have Hpn := Lib.hid hpn
      clear hpn
      obtain ⟨q0, q1⟩ := Kq.out
      obtain ⟨r0, r1⟩ := Fq.out
      go_wp2_with fail
      have KqY : Hid (Cw wr.drew g6 nj A6 lj.length c6) := Kq.out
      have FqY : Hid (Fw wr.drew g6) := Fq.out
      have KoY : Hid (Cw wr.drew w.heap.size false none 0 0) := Ko.out
      have FoY : Hid (Fw wr.drew w.heap.size) := Fo.out
      have SqY : Hid (Sl wr.drew A6 lj c6) := Sl.drew Sq.out
      have BY : Hid (Below w.heap.size w wr.drew) := Below.drew B.out
      obtain ⟨oq0, oq1⟩ := Kq.out
      obtain ⟨pq0, pq1⟩ := Fq.out
      go_region_with (first
        | (go_at_call 92; refine (hF.out _).mono ?_; rintro e x1 ⟨A7, c7, rfl, hs7, hb⟩; (try dsimp only at hs7); (try dsimp only); have Stx1 : Hid (Sl x1 A7 lt c7) := hs7; have Fqx1 := Lib.hid (Fw.keep FqY.out KqY.out hb); have Kqx1 := Lib.hid (KqY.out.keep hb); have Fox1 := Lib.hid (Fw.keep FoY.out KoY.out hb); have Kox1 := Lib.hid (KoY.out.keep hb); have Sqx1 := Lib.hid (SqY.out.below hb); have Bx1 := Lib.hid (below_mono BY.out hb); obtain ⟨oq0x1, oq1x1⟩ := Kqx1.out; obtain ⟨pq0x1, pq1x1⟩ := Fqx1.out; clear hb hs7)
        | (go_at_call 54; refine (wmul_any nj nt _ _ lj lt _ _ _ Sqx1.out Stx1.out).mono ?_; rw [e6.out]; rintro e x2 ⟨A8, c8, rfl, hs8, hb⟩; (try dsimp only at hs8); (try dsimp only); have Snx2 : Hid (Sl x2 A8 ln c8) := hs8; have Fqx2 := Lib.hid (Fw.keep Fqx1.out Kqx1.out hb); have Kqx2 := Lib.hid (Kqx1.out.keep hb); have Fox2 := Lib.hid (Fw.keep Fox1.out Kox1.out hb); have Kox2 := Lib.hid (Kox1.out.keep hb); have Sqx2 := Lib.hid (Sqx1.out.below hb); have Stx2 := Lib.hid (Stx1.out.below hb); have Bx2 := Lib.hid (below_mono Bx1.out hb); clear hb hs8)
        | (go_at_call 53; refine (must_ok nn A8 ln.length c8 _).mono ?_; rintro e x3 ⟨rfl, hb⟩; (try dsimp only); have Fqx3 := Lib.hid (Fw.keep Fqx2.out Kqx2.out hb); have Kqx3 := Lib.hid (Kqx2.out.keep hb); have Fox3 := Lib.hid (Fw.keep Fox2.out Kox2.out hb); have Kox3 := Lib.hid (Kox2.out.keep hb); have Sqx3 := Lib.hid (Sqx2.out.below hb); have Stx3 := Lib.hid (Stx2.out.below hb); have Snx3 := Lib.hid (Snx2.out.below hb); have Bx3 := Lib.hid (below_mono Bx2.out hb); obtain ⟨oq0x3, oq1x3⟩ := Kqx3.out; obtain ⟨pq0x3, pq1x3⟩ := Fqx3.out; clear hb))
      all_goals
        have Kq := Kqx3; have Fq := Fqx3
        have Ko := Kox3; have Fo := Fox3
        have Sq := Sqx3
        have St := Stx3
        have Sn := Snx3
        have B := Bx3
        go_wp2
        go_roundw
        case rel => exact ⟨j + 1, A8, c8, by go_num, hlt, by rw [Hpn.out]; exact (Cw.new Kq.out), (Fw.setW Fq.out _ _), by rw [Hpn.out]; exact (Sn.out.setW Kq.out.1 Kq.out.2 _ _), (Cw.setW Ko.out (by omega) _ _), (Fw.setW Fo.out _ _), (below_setW B.out (by omega) _ _)⟩
        case measure => simp [intOf] <;> omega
    · obtain rfl : j = k := by omega
      obtain ⟨q0, q1⟩ := Kq.out
      obtain ⟨r0, r1⟩ := Ko.out
      obtain ⟨f0, f1⟩ := Fo.out
      go_wp2
      exact bodyPost_ret (v := .agg #[.bool (p10 j).1, .slice A6 (p10 j).2.length c6]) (by simp [results, Tryz.results55, go_sem, r0, r1]) rfl ⟨A6, c6, rfl, Sq.out.setW r0 r1 _ _, below_setW B.out (by omega) _ _⟩

end Go.Proofs.YtmelbahbjdogdaaGreatDoor
/- Walk: frac.scientific. -/
namespace Go.Proofs.YtmelbahbjdogdaaGreatDoor
open Go.RowKit Go.Shelf Go.Lib
attribute [local go_sem ↓] Go.wp_at_zero Go.wp_at_succ
theorem cut_any (l p : List UInt8) (w : World) :
    Calls Tryz.prog 48 #[.string ⟨l.toArray⟩, .string ⟨p.toArray⟩] w fun e w' => e = .returned (.tuple #[.string ⟨(trimPrefix l p).toArray⟩, .bool (hasPrefix l p)]) ∧ w = w' :=
  (Tryz.strings_CutPrefix ⟨l.toArray⟩ ⟨p.toArray⟩ w).mono fun _ _ ⟨h1, h2⟩ => ⟨h1, by first | exact h2 | exact h2.symm⟩

theorem trimP_len (l p : List UInt8) : (trimPrefix l p).length ≤ l.length := by
  unfold trimPrefix
  split
  · rw [List.length_drop]; omega
  · exact Nat.le_refl _

set_option maxRecDepth 100000 in
set_option maxHeartbeats 2000000 in
theorem sci_ok (l : List UInt8) (hl : l.length ≤ 3000) (k : Int) (h : sciS l = some k) (w : World) :
    Calls Tryz.prog 52 #[.string ⟨l.toArray⟩] w fun e w' => e = .returned (.int .i64 k) ∧ Below w.heap.size w w' := by
  cases l with
  | nil =>
    have h0 : k = 0 := by unfold sciS at h; rw [if_pos rfl] at h; exact (Option.some.inj h).symm
    subst h0
    clear h
    go_enter Tryz.func52, Tryz.ntmps52
    go_wp2
    go_ret
    exact ⟨rfl, Below.refl _ _⟩
  | cons a t =>
  unfold sciS at h
  rw [if_neg (by simp)] at h
  split at h
  · cases h
  rename_i hp
  split at h
  case isFalse => cases h
  rename_i hc
  obtain ⟨h1, h2, h3⟩ := hc
  have hp2 : hasPrefix (a :: t) [101] = true := by cases hh : hasPrefix (a :: t) [101] with | true => rfl | false => exact absurd hh hp
  have hC1 : Hid (∀ W, Calls Tryz.prog 48 #[.string ⟨(a :: t).toArray⟩, .string ⟨#[101]⟩] W fun e w' => e = .returned (.tuple #[.string ⟨(trimPrefix (a :: t) [101]).toArray⟩, .bool true]) ∧ W = w') := fun W => hp2 ▸ cut_any _ [101] W
  have hC2 : Hid (∀ W, Calls Tryz.prog 48 #[.string ⟨(trimPrefix (a :: t) [101]).toArray⟩, .string ⟨#[45]⟩] W fun e w' => e = .returned (.tuple #[.string ⟨(trimPrefix (trimPrefix (a :: t) [101]) [45]).toArray⟩, .bool (hasPrefix (trimPrefix (a :: t) [101]) [45])]) ∧ W = w') := fun W => cut_any _ [45] W
  have hl1 := trimP_len (a :: t) [101]
  have hl2 := trimP_len (trimPrefix (a :: t) [101]) [45]
  have hC3 : Hid (∀ W, Calls Tryz.prog 49 #[.string ⟨(trimPrefix (trimPrefix (a :: t) [101]) [45]).toArray⟩] W fun e w' => e = .returned (.tuple #[.string ⟨(headD (trimPrefix (trimPrefix (a :: t) [101]) [45])).toArray⟩, .string ⟨#[]⟩]) ∧ Below W.heap.size W w') := fun W => by
    have := digits_any (trimPrefix (trimPrefix (a :: t) [101]) [45]) (by omega) W
    rw [h1] at this
    exact this
  have Hd := Lib.hid (headD_dig (trimPrefix (trimPrefix (a :: t) [101]) [45]))
  generalize trimPrefix (trimPrefix (a :: t) [101]) [45] = r2 at *
  generalize trimPrefix (a :: t) [101] = r1 at *
  generalize hasPrefix r1 [45] = m at *
  generalize headD r2 = d at *
  obtain rfl := Option.some.inj h
  clear h h1 hp hp2 hl hl1 hl2
  cases d with
  | nil => exact absurd rfl h2
  | cons b r =>
  have h3 : r.length ≤ 2 := by simpa using h3
  have hsz2 : (ByteArray.mk (b :: r).toArray).size = r.length + 1 := by simp [ByteArray.size]
  have d3 : decide ((r.length : Int) + 1 ≤ 3) = true := decide_eq_true (by omega)
  clear h2
  unfold sgn
  cases m with
  | false =>
    rw [if_neg (by simp)]
    go_enter Tryz.func52, Tryz.ntmps52
    go_wp2_with fail
    refine (hC1.out _).mono ?_
    rintro e w' ⟨rfl, rfl⟩
    go_wp2_with fail
    refine (form_ok _).mono ?_
    rintro e w1 ⟨rfl, hb⟩
    have B := Lib.hid hb
    clear hb
    go_wp2_with fail
    refine (hC2.out _).mono ?_
    rintro e w' ⟨rfl, rfl⟩
    go_wp2_with fail
    refine (hC3.out _).mono ?_
    rintro e w2 ⟨rfl, hb⟩
    have B := Lib.hid (below_mono B.out hb)
    clear hb
    go_wp2_with fail
    refine (form_ok _).mono ?_
    rintro e w3 ⟨rfl, hb⟩
    have B := Lib.hid (below_mono B.out hb)
    clear hb
    go_wp2
    go_loop [8, 43] (fun nv iv => ∃ k : Nat, k ≤ r.length + 1 ∧ iv = .int .i64 k ∧ nv = .int .i64 ((dv ((b :: r).take k) : Nat) : Int)) (fun _ iv => r.length + 1 - (intOf iv).toNat)
    case atStart => exact ⟨0, by omega, rfl, rfl⟩
    case round =>
      obtain ⟨k, hk, rfl, rfl⟩ := hrel
      by_cases hkl : k < r.length + 1
      · have hdk := Hd.out ((b :: r)[k]'(by simp; exact hkl)) (List.getElem_mem _)
        have hgk : (ByteArray.mk (b :: r).toArray)[k]'(by rw [hsz2]; exact hkl) = (b :: r)[k]'(by simp; exact hkl) := rfl
        have Hdt2 : Hid (dv ((b :: r).take (k + 1)) = 10 * dv ((b :: r).take k) + (((b :: r)[k]'(by simp; exact hkl)).toNat - 48)) := by
          unfold Hid
          rw [← List.take_append_getElem (by simp; exact hkl), dv_snoc]
        have hv9 : dv ((b :: r).take k) ≤ 999 := dv_three (fun c hc => Hd.out c (List.mem_of_mem_take hc)) (by rw [List.length_take]; simp; omega)
        generalize (b :: r)[k]'(by simp; exact hkl) = x at *
        generalize dv ((b :: r).take k) = v at *
        have hw1 : IntKind.u8.wrap ((x.toNat : Int) - 48) = (x.toNat : Int) - 48 := by rw [IntKind.wrap_u8]; omega
        go_wp2
        go_round
        case rel => exact ⟨k + 1, by omega, by go_num, by rw [Hdt2.out]; go_num⟩
        case measure => simp [intOf]; omega
      · obtain rfl : k = r.length + 1 := by omega
        have hta : (b :: r).take (r.length + 1) = b :: r := List.take_of_length_le (by simp)
        rw [hta]
        clear hta
        have hv9 : dv (b :: r) ≤ 999 := dv_three Hd.out (by simp; omega)
        generalize hv : dv (b :: r) = v at *
        have Hv := Lib.hid hv
        clear hv
        go_wp2
        go_ret
        exact ⟨by rw [Hv.out]; rfl, B.out⟩
  | true =>
    rw [if_pos rfl]
    go_enter Tryz.func52, Tryz.ntmps52
    go_wp2_with fail
    refine (hC1.out _).mono ?_
    rintro e w' ⟨rfl, rfl⟩
    go_wp2_with fail
    refine (form_ok _).mono ?_
    rintro e w1 ⟨rfl, hb⟩
    have B := Lib.hid hb
    clear hb
    go_wp2_with fail
    refine (hC2.out _).mono ?_
    rintro e w' ⟨rfl, rfl⟩
    go_wp2_with fail
    refine (hC3.out _).mono ?_
    rintro e w2 ⟨rfl, hb⟩
    have B := Lib.hid (below_mono B.out hb)
    clear hb
    go_wp2_with fail
    refine (form_ok _).mono ?_
    rintro e w3 ⟨rfl, hb⟩
    have B := Lib.hid (below_mono B.out hb)
    clear hb
    go_wp2
    go_loop [8, 43] (fun nv iv => ∃ k : Nat, k ≤ r.length + 1 ∧ iv = .int .i64 k ∧ nv = .int .i64 ((dv ((b :: r).take k) : Nat) : Int)) (fun _ iv => r.length + 1 - (intOf iv).toNat)
    case atStart => exact ⟨0, by omega, rfl, rfl⟩
    case round =>
      obtain ⟨k, hk, rfl, rfl⟩ := hrel
      by_cases hkl : k < r.length + 1
      · have hdk := Hd.out ((b :: r)[k]'(by simp; exact hkl)) (List.getElem_mem _)
        have hgk : (ByteArray.mk (b :: r).toArray)[k]'(by rw [hsz2]; exact hkl) = (b :: r)[k]'(by simp; exact hkl) := rfl
        have Hdt2 : Hid (dv ((b :: r).take (k + 1)) = 10 * dv ((b :: r).take k) + (((b :: r)[k]'(by simp; exact hkl)).toNat - 48)) := by
          unfold Hid
          rw [← List.take_append_getElem (by simp; exact hkl), dv_snoc]
        have hv9 : dv ((b :: r).take k) ≤ 999 := dv_three (fun c hc => Hd.out c (List.mem_of_mem_take hc)) (by rw [List.length_take]; simp; omega)
        generalize (b :: r)[k]'(by simp; exact hkl) = x at *
        generalize dv ((b :: r).take k) = v at *
        have hw1 : IntKind.u8.wrap ((x.toNat : Int) - 48) = (x.toNat : Int) - 48 := by rw [IntKind.wrap_u8]; omega
        go_wp2
        go_round
        case rel => exact ⟨k + 1, by omega, by go_num, by rw [Hdt2.out]; go_num⟩
        case measure => simp [intOf]; omega
      · obtain rfl : k = r.length + 1 := by omega
        have hta : (b :: r).take (r.length + 1) = b :: r := List.take_of_length_le (by simp)
        rw [hta]
        clear hta
        have hv9 : dv (b :: r) ≤ 999 := dv_three Hd.out (by simp; omega)
        generalize hv : dv (b :: r) = v at *
        have Hv := Lib.hid hv
        clear hv
        go_wp2
        go_ret
        exact ⟨by rw [Hv.out]; rfl, B.out⟩

set_option maxRecDepth 100000 in
set_option maxHeartbeats 2000000 in
theorem sci_bad (l : List UInt8) (hl : l.length ≤ 3000) (h : sciS l = none) (w : World) :
    Calls Tryz.prog 52 #[.string ⟨l.toArray⟩] w fun e w' => e = fallE 12 ∧ Below w.heap.size w w' := by
  cases l with
  | nil => unfold sciS at h; rw [if_pos rfl] at h; cases h
  | cons a t =>
  unfold sciS at h
  rw [if_neg (by simp)] at h
  have hl1 := trimP_len (a :: t) [101]
  have hl2 := trimP_len (trimPrefix (a :: t) [101]) [45]
  have hC1 : Hid (∀ W, Calls Tryz.prog 48 #[.string ⟨(a :: t).toArray⟩, .string ⟨#[101]⟩] W fun e w' => e = .returned (.tuple #[.string ⟨(trimPrefix (a :: t) [101]).toArray⟩, .bool (hasPrefix (a :: t) [101])]) ∧ W = w') := fun W => cut_any _ [101] W
  have hC2 : Hid (∀ W, Calls Tryz.prog 48 #[.string ⟨(trimPrefix (a :: t) [101]).toArray⟩, .string ⟨#[45]⟩] W fun e w' => e = .returned (.tuple #[.string ⟨(trimPrefix (trimPrefix (a :: t) [101]) [45]).toArray⟩, .bool (hasPrefix (trimPrefix (a :: t) [101]) [45])]) ∧ W = w') := fun W => cut_any _ [45] W
  have hC3 : Hid (∀ W, Calls Tryz.prog 49 #[.string ⟨(trimPrefix (trimPrefix (a :: t) [101]) [45]).toArray⟩] W fun e w' => e = .returned (.tuple #[.string ⟨(headD (trimPrefix (trimPrefix (a :: t) [101]) [45])).toArray⟩, .string ⟨(tailD (trimPrefix (trimPrefix (a :: t) [101]) [45])).toArray⟩]) ∧ Below W.heap.size W w') := fun W => digits_any (trimPrefix (trimPrefix (a :: t) [101]) [45]) (by omega) W
  have hd1 := headD_len (trimPrefix (trimPrefix (a :: t) [101]) [45])
  generalize trimPrefix (trimPrefix (a :: t) [101]) [45] = r2 at *
  generalize trimPrefix (a :: t) [101] = r1 at *
  generalize hasPrefix (a :: t) [101] = p at *
  generalize hasPrefix r1 [45] = m at *
  generalize headD r2 = d at *
  generalize tailD r2 = q at *
  cases p with
  | false =>
    clear h hl1 hl2 hd1 hl hC3 hC2
    go_enter Tryz.func52, Tryz.ntmps52
    go_wp2_with fail
    refine (hC1.out _).mono ?_
    rintro e w' ⟨rfl, rfl⟩
    go_wp2_with fail
    refine (form_bad _).mono ?_
    rintro e w4 ⟨rfl, hb⟩
    exact ⟨rfl, rfl, hb⟩
  | true =>
  rw [if_neg (by simp)] at h
  split at h
  · cases h
  rename_i hc
  clear h
  cases q with
  | cons x y =>
    clear hc hl1 hl2 hd1 hl
    go_enter Tryz.func52, Tryz.ntmps52
    go_wp2_with fail
    refine (hC1.out _).mono ?_
    rintro e w' ⟨rfl, rfl⟩
    go_wp2_with fail
    refine (form_ok _).mono ?_
    rintro e w1 ⟨rfl, hb⟩
    have B := Lib.hid hb
    clear hb
    go_wp2_with fail
    refine (hC2.out _).mono ?_
    rintro e w' ⟨rfl, rfl⟩
    go_wp2_with fail
    refine (hC3.out _).mono ?_
    rintro e w2 ⟨rfl, hb⟩
    have B := Lib.hid (below_mono B.out hb)
    clear hb
    go_wp2_with fail
    refine (form_bad _).mono ?_
    rintro e w4 ⟨rfl, hb⟩
    exact ⟨rfl, rfl, below_mono B.out hb⟩
  | nil =>
  cases d with
  | nil =>
    clear hc hl1 hl2 hd1 hl
    go_enter Tryz.func52, Tryz.ntmps52
    go_wp2_with fail
    refine (hC1.out _).mono ?_
    rintro e w' ⟨rfl, rfl⟩
    go_wp2_with fail
    refine (form_ok _).mono ?_
    rintro e w1 ⟨rfl, hb⟩
    have B := Lib.hid hb
    clear hb
    go_wp2_with fail
    refine (hC2.out _).mono ?_
    rintro e w' ⟨rfl, rfl⟩
    go_wp2_with fail
    refine (hC3.out _).mono ?_
    rintro e w2 ⟨rfl, hb⟩
    have B := Lib.hid (below_mono B.out hb)
    clear hb
    go_wp2_with fail
    refine (form_bad _).mono ?_
    rintro e w4 ⟨rfl, hb⟩
    exact ⟨rfl, rfl, below_mono B.out hb⟩
  | cons b r =>
    have h3 : ¬ (r.length + 1 ≤ 3) := fun h => hc ⟨rfl, by simp, by simpa using h⟩
    have d3 : decide ((r.length : Int) + 1 ≤ 3) = false := decide_eq_false (by omega)
    have hsz2 : (ByteArray.mk (b :: r).toArray).size = r.length + 1 := by simp [ByteArray.size]
    have h4 : r.length ≤ 3000 := by simp at hd1; omega
    clear hc hl1 hl2 hd1 hl h3
    go_enter Tryz.func52, Tryz.ntmps52
    go_wp2_with fail
    refine (hC1.out _).mono ?_
    rintro e w' ⟨rfl, rfl⟩
    go_wp2_with fail
    refine (form_ok _).mono ?_
    rintro e w1 ⟨rfl, hb⟩
    have B := Lib.hid hb
    clear hb
    go_wp2_with fail
    refine (hC2.out _).mono ?_
    rintro e w' ⟨rfl, rfl⟩
    go_wp2_with fail
    refine (hC3.out _).mono ?_
    rintro e w2 ⟨rfl, hb⟩
    have B := Lib.hid (below_mono B.out hb)
    clear hb
    go_wp2_with fail
    refine (form_bad _).mono ?_
    rintro e w4 ⟨rfl, hb⟩
    exact ⟨rfl, rfl, below_mono B.out hb⟩

end Go.Proofs.YtmelbahbjdogdaaGreatDoor

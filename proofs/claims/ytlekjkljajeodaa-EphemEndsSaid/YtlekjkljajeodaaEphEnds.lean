import Derived.Test.YtlekjkljajeodaaEphW
/- The walk of EphemEnds. -/
namespace Go.Proofs.Ytlekjkljajeodaa
open Go.RowKit
attribute [local go_sem ↓] Go.wp_at_zero Go.wp_at_succ
theorem head_seg {ss : List SG} (h : 0 < ss.length) : ∃ s r, ss = s :: r := by
  cases ss with
  | nil => simp at h
  | cons s r => exact ⟨s, r, rfl⟩

/-- What the places at the ends of a body's first segment are. -/
theorem ends_pl {bs : List BG} {k : Nat} (hg : grE bs = false) (hc : chkE bs = 0) (hk : k < bs.length) :
    ∃ hs : 0 < (bs[k]'hk).ss.length, OkSeg ((bs[k]'hk).ss[0]'hs) ∧ plE bs k ((bs[k]'hk).ss[0]'hs).F = (plV ((bs[k]'hk).ss[0]'hs) ((bs[k]'hk).ss[0]'hs).F, 0) ∧ plE bs k ((bs[k]'hk).ss[0]'hs).T = (plV ((bs[k]'hk).ss[0]'hs) ((bs[k]'hk).ss[0]'hs).T, 0) := by
  obtain ⟨-, -, h3⟩ := chkE_ok hc
  have hG := h3.b k hk
  have hs := hG.ne
  refine ⟨hs, ?_⟩
  have hm : bs[k]'hk ∈ bs := List.getElem_mem hk
  have hb : getB bs k = some (bs[k]'hk) := by rw [getB_some (by omega)]; simp
  have ok := ok_seg hg hc hm (List.getElem_mem hs)
  generalize bs[k]'hk = b at *
  obtain ⟨s, r, e⟩ := head_seg hs
  have e0 : b.ss[0]'hs = s := by simp [e]
  rw [e0] at ok ⊢
  obtain ⟨p1, -⟩ := seg_parts ok
  refine ⟨ok, ?_, ?_⟩
  · unfold plE lkE
    rw [if_pos hc, hb]
    have : segOf b.ss s.F = some s := by
      unfold segOf; rw [e, List.find?_cons]
      have : inS s.F s = true := by unfold inS; simp; omega
      rw [this]
    simp only [this]
  · unfold plE lkE
    rw [if_pos hc, hb]
    have : segOf b.ss s.T = some s := by
      unfold segOf; rw [e, List.find?_cons]
      have : inS s.T s = true := by unfold inS; simp; omega
      rw [this]
    simp only [this]

theorem iv_same (a b : Int) (W : World) : (Op.equalIn 10000 36 (.agg #[.int .i64 a, .int .i64 b]) (.agg #[.int .i64 a, .int .i64 b])).run Try.prog W = .ok true W := by
  rw [iv_eqlIn 9998]; simp

set_option maxRecDepth 100000 in
set_option maxHeartbeats 8000000 in
theorem ephemEnds_walk (bs : List BG) (A : Option Addr) (c : Nat) (i : Int) (W0 : World) (hs : SlB W0 W0.heap.size A bs c) :
    Calls Try.prog 3 #[.agg #[.slice A bs.length c], .int .i64 i] W0 fun e w' => e = .returned (.bool true) ∧ Below W0.heap.size W0 w' := by
  have hm := hs.len
  have S := Lib.hid hs
  clear hs
  have SW := Lib.hid (fun W (h : Below W0.heap.size W0 W) => S.out.below h)
  go_enter Try.func3, Try.ntmps3
  go_wp2_with fail
  generalize hw0 : W0.alloc (.cells #[.slice A bs.length c] 24) = w0 at *
  have B0 : Hid (Below W0.heap.size W0 w0) := by rw [← hw0]; exact blw1 _ _
  have K0 : Hid (BlkV w0 W0.heap.size 24 #[.slice A bs.length c]) := by rw [← hw0]; exact BlkV.fresh rfl _ _
  clear hw0
  refine (alive_any _).mono ?_
  rintro e w1 ⟨rfl, hb⟩
  have B1 := Lib.hid (below_mono B0.out hb)
  have K1 := Lib.hid (K0.out.keep hb)
  clear hb B0 K0
  have k0 := K1.out.at_ 0 rfl
  have hlk := K1.out.lt
  go_wp2_with fail
  refine (rgreat_any bs A c _ w1 (SW.out _ B1.out)).mono ?_
  rintro e w2 ⟨rfl, hb⟩
  have B2 := Lib.hid (below_mono B1.out hb)
  have K2 := Lib.hid (K1.out.keep hb)
  clear hb B1 K1 k0 hlk
  have k0 := K2.out.at_ 0 rfl
  have hlk := K2.out.lt
  cases hg : grE bs with
  | true =>
    go_wp2
    go_ret
    exact ⟨rfl, B2.out⟩
  | false =>
    have HG := Lib.hid hg
    clear hg
    go_wp2_with fail
    refine (recheck_any bs A c _ w2 (SW.out _ B2.out)).mono ?_
    rintro e w3 ⟨rfl, hb⟩
    have B3 := Lib.hid (below_mono B2.out hb)
    have K3 := Lib.hid (K2.out.keep hb)
    clear hb B2 K2 k0 hlk
    have k0 := K3.out.at_ 0 rfl
    have hlk := K3.out.lt
    by_cases hc : chkE bs = 0
    · rw [hc]
      have HC := Lib.hid hc
      clear hc
      by_cases h1 : i < 0
      · have t1 : decide (i < 0) = true := decide_eq_true h1
        go_wp2
        go_ret
        exact ⟨rfl, B3.out⟩
      · have t1 : decide (i < 0) = false := decide_eq_false h1
        by_cases h2 : (bs.length : Int) ≤ i
        · have t2 : decide ((bs.length : Int) ≤ i) = true := decide_eq_true h2
          go_wp2
          go_ret
          exact ⟨rfl, B3.out⟩
        · have t2 : decide ((bs.length : Int) ≤ i) = false := decide_eq_false h2
          obtain ⟨k, rfl⟩ : ∃ k : Nat, i = k := ⟨i.toNat, by omega⟩
          have hk : k < bs.length := by omega
          have t2n : decide (bs.length ≤ k) = false := decide_eq_false (by omega)
          obtain ⟨hs0, hok, hF, hT⟩ := ends_pl HG.out HC.out hk
          have CP := Lib.hid (fun t V (h : Below W0.heap.size W0 V) => ePlace_any bs A c W0.heap.size k t V (SW.out V h) HG.out)
          have P1 := Lib.hid (plV_beg hok)
          have P2 := Lib.hid (plV_end hok)
          replace hF := Lib.hid hF
          replace hT := Lib.hid hT
          obtain ⟨b, o, rfl, -, q0, q1, q2, q3, hb⟩ := (SW.out _ B3.out).at_ hk
          have OK := Lib.hid (fun V (h : Below W0.heap.size W0 V) => ((SW.out V h).all _ (List.getElem_mem hk)).sl)
          clear hb q0 q1 q2 h1 h2
          generalize bs[k]'hk = y at *
          obtain ⟨yA, hyA⟩ : ∃ a, y.A = a := ⟨_, rfl⟩
          rw [hyA] at q3 OK
          clear hyA
          obtain ⟨b2, o2, rfl, -, p0, p1, p2, p3, p4, hos⟩ := (OK.out _ B3.out).at_ hs0
          have OKS := Lib.hid (fun V (h : Below W0.heap.size W0 V) => (OK.out V h).all _ (List.getElem_mem hs0))
          clear hos OK
          obtain ⟨pp1, pf1, pf2, pt1, pt2, pl0, pl1, pl2⟩ := seg_parts hok
          have n0 := hok.n0
          have n1 := hok.n1
          have n2 := hok.n2
          clear hok
          simp only [Nat.zero_mul, Nat.add_zero] at p0 p1 p2 p3 p4
          generalize y.ss[0]'hs0 = s at *
          go_upto_region 5 with fail
          generalize hwx : w3.alloc (.cells #[.int .i64 s.F, .int .i64 s.T, .slice s.A0 s.l0.length s.c0, .slice s.A1 s.l1.length s.c1, .slice s.A2 s.l2.length s.c2] 31) = wx at *
          have BX : Hid (Below W0.heap.size W0 wx) := by rw [← hwx]; exact below_mono B3.out (blw1 _ _)
          have KS : Hid (BlkV wx w3.heap.size 31 #[.int .i64 s.F, .int .i64 s.T, .slice s.A0 s.l0.length s.c0, .slice s.A1 s.l1.length s.c1, .slice s.A2 s.l2.length s.c2]) := by rw [← hwx]; exact BlkV.fresh rfl _ _
          have KE : Hid (BlkV wx W0.heap.size 24 #[.slice (some ⟨b, o, none⟩) bs.length c]) := by rw [← hwx]; exact K3.out.alloc _
          clear hwx q3 p0 p1 p2 p3 p4 k0 hlk K3 B3
          generalize w3.heap.size = gs at *
          have k0 := KE.out.at_ 0 rfl
          have s0 := KS.out.at_ 0 rfl
          have s1 := KS.out.at_ 1 rfl
          have s2 := KS.out.at_ 2 rfl
          have s3 := KS.out.at_ 3 rfl
          have s4 := KS.out.at_ 4 rfl
          go_wp2_with fail
          refine (CP.out s.F _ BX.out).mono ?_
          rw [hF.out, P1.out]
          rintro e w4 ⟨rfl, hb⟩
          dsimp only
          replace KS := Lib.hid (KS.out.keep hb)
          replace KE := Lib.hid (KE.out.keep hb)
          replace BX := Lib.hid (below_mono BX.out hb)
          clear hb k0 s0 s1 s2 s3 s4
          go_upto_region 6 with fail
          generalize hwx : w4.alloc (.cells #[.int .i64 (altI s.l0 s.l0.length), .int .i64 (altI s.l0 s.l0.length), .int .i64 (altI s.l1 s.l1.length), .int .i64 (altI s.l1 s.l1.length), .int .i64 (altI s.l2 s.l2.length), .int .i64 (altI s.l2 s.l2.length)] 38) = wy at *
          replace BX : Hid (Below W0.heap.size W0 wy) := by rw [← hwx]; exact below_mono BX.out (blw1 _ _)
          have KA : Hid (BlkV wy w4.heap.size 38 #[.int .i64 (altI s.l0 s.l0.length), .int .i64 (altI s.l0 s.l0.length), .int .i64 (altI s.l1 s.l1.length), .int .i64 (altI s.l1 s.l1.length), .int .i64 (altI s.l2 s.l2.length), .int .i64 (altI s.l2 s.l2.length)]) := by rw [← hwx]; exact BlkV.fresh rfl _ _
          replace KS : Hid (BlkV wy gs 31 #[.int .i64 s.F, .int .i64 s.T, .slice s.A0 s.l0.length s.c0, .slice s.A1 s.l1.length s.c1, .slice s.A2 s.l2.length s.c2]) := by rw [← hwx]; exact KS.out.alloc _
          replace KE : Hid (BlkV wy W0.heap.size 24 #[.slice (some ⟨b, o, none⟩) bs.length c]) := by rw [← hwx]; exact KE.out.alloc _
          clear hwx
          generalize w4.heap.size = ga at *
          have k0 := KE.out.at_ 0 rfl
          have s0 := KS.out.at_ 0 rfl
          have s1 := KS.out.at_ 1 rfl
          have s2 := KS.out.at_ 2 rfl
          have s3 := KS.out.at_ 3 rfl
          have s4 := KS.out.at_ 4 rfl
          go_wp2_with fail
          refine (CP.out s.T _ BX.out).mono ?_
          rw [hT.out, P2.out]
          rintro e w5 ⟨rfl, hb⟩
          dsimp only
          replace KS := Lib.hid (KS.out.keep hb)
          replace KA := Lib.hid (KA.out.keep hb)
          replace BX := Lib.hid (below_mono BX.out hb)
          clear hb k0 s0 s1 s2 s3 s4 KE CP
          go_upto_region 7 with fail
          generalize hwx : w5.alloc (.cells #[.int .i64 (sumI s.l0 s.l0.length), .int .i64 (sumI s.l0 s.l0.length), .int .i64 (sumI s.l1 s.l1.length), .int .i64 (sumI s.l1 s.l1.length), .int .i64 (sumI s.l2 s.l2.length), .int .i64 (sumI s.l2 s.l2.length)] 38) = wu at *
          replace BX : Hid (Below W0.heap.size W0 wu) := by rw [← hwx]; exact below_mono BX.out (blw1 _ _)
          have KB : Hid (BlkV wu w5.heap.size 38 #[.int .i64 (sumI s.l0 s.l0.length), .int .i64 (sumI s.l0 s.l0.length), .int .i64 (sumI s.l1 s.l1.length), .int .i64 (sumI s.l1 s.l1.length), .int .i64 (sumI s.l2 s.l2.length), .int .i64 (sumI s.l2 s.l2.length)]) := by rw [← hwx]; exact BlkV.fresh rfl _ _
          replace KS : Hid (BlkV wu gs 31 #[.int .i64 s.F, .int .i64 s.T, .slice s.A0 s.l0.length s.c0, .slice s.A1 s.l1.length s.c1, .slice s.A2 s.l2.length s.c2]) := by rw [← hwx]; exact KS.out.alloc _
          replace KA : Hid (BlkV wu ga 38 #[.int .i64 (altI s.l0 s.l0.length), .int .i64 (altI s.l0 s.l0.length), .int .i64 (altI s.l1 s.l1.length), .int .i64 (altI s.l1 s.l1.length), .int .i64 (altI s.l2 s.l2.length), .int .i64 (altI s.l2 s.l2.length)]) := by rw [← hwx]; exact KA.out.alloc _
          clear hwx
          generalize w5.heap.size = gb at *
          clear P1 P2 hF hT
          have Q0 := Lib.hid pl0
          have Q1 := Lib.hid pl1
          have Q2 := Lib.hid pl2
          clear pl0 pl1 pl2
          go_wp2
          go_loopw [11] (fun s11 wr => ∃ i : Nat, i ≤ 3 ∧ s11 = .int .i64 i ∧ Below wu.heap.size wu wr) (fun v _ => 3 - (intOf v).toNat)
          case atStart => exact ⟨0, by omega, rfl, Below.refl _ _⟩
          case round =>
            obtain ⟨i, hi, rfl, hbr⟩ := hrel
            have KS2 := Lib.hid (KS.out.keep hbr)
            have KA2 := Lib.hid (KA.out.keep hbr)
            have KB2 := Lib.hid (KB.out.keep hbr)
            have BR := Lib.hid hbr
            have OS := Lib.hid (OKS.out _ (below_mono BX.out hbr))
            clear hbr
            by_cases hi3 : i < 3
            · have ti : decide ((i : Int) < 3) = true := decide_eq_true (by omega)
              obtain ⟨Al, l, cl, pc, hsl, hll, hl6, ca0, ca1, cb0, cb1⟩ : ∃ Al l cl, wr.cell? ⟨gs, 2 + i, none⟩ = some (.slice Al l.length cl) ∧ SlI wr W0.heap.size Al l cl ∧ listB l = true ∧ l.length ≤ 6 ∧ wr.cell? ⟨ga, i * 2, none⟩ = some (.int .i64 (altI l l.length)) ∧ wr.cell? ⟨ga, i * 2 + 1, none⟩ = some (.int .i64 (altI l l.length)) ∧ wr.cell? ⟨gb, i * 2, none⟩ = some (.int .i64 (sumI l l.length)) ∧ wr.cell? ⟨gb, i * 2 + 1, none⟩ = some (.int .i64 (sumI l l.length)) := by
                have hk' : i = 0 ∨ i = 1 ∨ i = 2 := by omega
                rcases hk' with rfl | rfl | rfl
                · exact ⟨_, _, _, KS2.out.at_ 2 rfl, OS.out.i0, Q0.out, n0, KA2.out.at_ 0 rfl, KA2.out.at_ 1 rfl, KB2.out.at_ 0 rfl, KB2.out.at_ 1 rfl⟩
                · exact ⟨_, _, _, KS2.out.at_ 3 rfl, OS.out.i1, Q1.out, n1, KA2.out.at_ 2 rfl, KA2.out.at_ 3 rfl, KB2.out.at_ 2 rfl, KB2.out.at_ 3 rfl⟩
                · exact ⟨_, _, _, KS2.out.at_ 4 rfl, OS.out.i2, Q2.out, n2, KA2.out.at_ 4 rfl, KA2.out.at_ 5 rfl, KB2.out.at_ 4 rfl, KB2.out.at_ 5 rfl⟩
              have SL := Lib.hid hsl
              have SB := Lib.hid (sum_bd hll)
              have TB := Lib.hid (term_bd hll)
              clear hsl hll
              obtain ⟨zA, hzA⟩ : ∃ z, z = altI l l.length := ⟨_, rfl⟩
              obtain ⟨zB, hzB⟩ : ∃ z, z = sumI l l.length := ⟨_, rfl⟩
              rw [← hzA] at ca0 ca1
              rw [← hzB] at cb0 cb1
              replace hzA := Lib.hid hzA
              replace hzB := Lib.hid hzB
              replace ca0 := Lib.hid ca0
              replace ca1 := Lib.hid ca1
              replace cb0 := Lib.hid cb0
              replace cb1 := Lib.hid cb1
              go_wp2
              go_loopw [12, 13, 14] (fun s12 s13 s14 wv => ∃ j : Nat, j ≤ l.length ∧ s14 = .int .i64 j ∧ s12 = .int .i64 (sumI l j) ∧ s13 = .int .i64 (altI l j) ∧ wv = wr) (fun _ _ v _ => l.length - (intOf v).toNat)
              case atStart => exact ⟨0, Nat.zero_le _, rfl, rfl, rfl, rfl⟩
              case round =>
                obtain ⟨j, hj, rfl, rfl, rfl, hw⟩ := hrel
                replace hw := hw.symm
                subst hw
                by_cases hjl : j < l.length
                · have tj : decide ((j : Int) < (l.length : Int)) = true := decide_eq_true (by omega)
                  have sb := SB.out j
                  have tb := TB.out j
                  obtain ⟨bb, oo, rfl, -, hx⟩ := SL.out.atE hjl
                  have N1 : Hid (sumI l (j + 1) = sumI l j + l.getD j 0) := rfl
                  have N2 : Hid (altI l (j + 1) = if j % 2 = 0 then altI l j + l.getD j 0 else altI l j - l.getD j 0) := rfl
                  generalize sumI l j = a at *
                  generalize altI l j = d at *
                  generalize l.getD j 0 = n at *
                  have hr : (j : Int) % 2 = ((j % 2 : Nat) : Int) := by omega
                  have ra : -9223372036854775808 ≤ a + n ∧ a + n ≤ 9223372036854775807 := by omega
                  have rb : -9223372036854775808 ≤ d + n ∧ d + n ≤ 9223372036854775807 := by omega
                  have rc : -9223372036854775808 ≤ d - n ∧ d - n ≤ 9223372036854775807 := by omega
                  clear sb tb
                  by_cases he : j % 2 = 0
                  · have hz : ((j : Int) % 2 == 0) = true := by rw [hr, he]; rfl
                    rw [if_pos he] at N2
                    clear hr he
                    go_wp2
                    go_roundw
                    case rel => exact ⟨j + 1, by omega, by go_num, by rw [N1.out], by rw [N2.out], (by first | rfl | trivial)⟩
                    case measure => simp [intOf]; omega
                  · have hz : ((j : Int) % 2 == 0) = false := by rw [hr, beq_eq_false_iff_ne]; omega
                    rw [if_neg he] at N2
                    clear hr he
                    go_wp2
                    go_roundw
                    case rel => exact ⟨j + 1, by omega, by go_num, by rw [N1.out], by rw [N2.out], (by first | rfl | trivial)⟩
                    case measure => simp [intOf]; omega
                · obtain rfl : j = l.length := by omega
                  have tj : decide ((l.length : Int) < (l.length : Int)) = false := decide_eq_false (by omega)
                  rw [← hzA.out, ← hzB.out]
                  go_upto_region 20 with fail
                  have JS : Hid (∀ X, Below wr.heap.size wr X → X.cell? ⟨ga, i * 2, none⟩ = some (.int .i64 zA) ∧ X.cell? ⟨ga, i * 2 + 1, none⟩ = some (.int .i64 zA) ∧ X.cell? ⟨gb, i * 2, none⟩ = some (.int .i64 zB) ∧ X.cell? ⟨gb, i * 2 + 1, none⟩ = some (.int .i64 zB)) := fun X h => ⟨kept_cell h ca0.out, kept_cell h ca1.out, kept_cell h cb0.out, kept_cell h cb1.out⟩
                  have Y0 : Hid (Below wr.heap.size wr wr.drew) := (Below.refl _ _).drew
                  have hqa := fun W => iv_same zA zA W
                  have hqb := fun W => iv_same zB zB W
                  have i3 : (i : Int) < 3 := by omega
                  have i0 : (0 : Int) ≤ (i : Int) := by omega
                  refine wp_region_held_drew (S := fun w' => w'.cell? ⟨ga, i * 2, none⟩ = some (.int .i64 zA) ∧ w'.cell? ⟨ga, i * 2 + 1, none⟩ = some (.int .i64 zA) ∧ w'.cell? ⟨gb, i * 2, none⟩ = some (.int .i64 zB) ∧ w'.cell? ⟨gb, i * 2 + 1, none⟩ = some (.int .i64 zB)) (by kernel_rfl) (JS.out _ Y0.out) (fun hHeld => ?_)
                  refine wpAnyH_take (i := 0) (v := .int .i64 i) rfl (by kernel_rfl) (by kernel_rfl) (by kernel_rfl) (fun _ _ _ h => h) (Or.inl ⟨by rfl, by intro w hSw; (try dsimp only at hSw); go_simp⟩) (by assumption) ?_
                  (try simp only [Act.put, List.getElem_toArray, List.getElem_cons_zero, List.setIfInBounds_toArray, List.set_cons_zero, List.set_cons_succ])
                  refine wpAnyH_take (i := 1) (v := .pointer (some ⟨ga, i * 2, none⟩)) rfl (by kernel_rfl) (by kernel_rfl) (by kernel_rfl) (fun _ _ _ h => h) (Or.inl ⟨by rfl, by intro w hSw; (try dsimp only at hSw); go_simp⟩) (by assumption) ?_
                  (try simp only [Act.put, List.getElem_toArray, List.getElem_cons_zero, List.getElem_cons_succ, List.setIfInBounds_toArray, List.set_cons_zero, List.set_cons_succ])
                  refine wpAnyH_take (i := 2) (v := .agg #[.int .i64 zA, .int .i64 zA]) rfl (by kernel_rfl) (by kernel_rfl) (by kernel_rfl) (fun _ _ _ h => h) (Or.inl ⟨by rfl, by intro w hSw; (try dsimp only at hSw); go_simp⟩) (by assumption) ?_
                  (try simp only [Act.put, List.getElem_toArray, List.getElem_cons_zero, List.getElem_cons_succ, List.setIfInBounds_toArray, List.set_cons_zero, List.set_cons_succ])
                  refine wpAnyH_take (i := 3) (v := .int .i64 zA) rfl (by kernel_rfl) (by kernel_rfl) (by kernel_rfl) (fun _ _ _ h => h) (Or.inl ⟨by rfl, by intro w hSw; (try dsimp only at hSw); go_simp⟩) (by assumption) ?_
                  (try simp only [Act.put, List.getElem_toArray, List.getElem_cons_zero, List.getElem_cons_succ, List.setIfInBounds_toArray, List.set_cons_zero, List.set_cons_succ])
                  refine wpAnyH_ready (rs := [4]) (by kernel_rfl) (by simp) ?_
                  refine AllReadyH.cons rfl (fun K hK => ?_) AllReadyH.nil
                  go_simp
                  (with_reducible refine (point_any zA _).mono ?_)
                  rintro e v1 ⟨rfl, hb⟩
                  (try dsimp only)
                  have Y1 := Lib.hid (below_mono Y0.out hb)
                  clear hb
                  (try go_wp2_with fail)
                  refine hK.out _ _ (JS.out _ Y1.out) (fun hHeld2 => ?_)
                  clear hK K hHeld
                  have hHeld := hHeld2
                  clear hHeld2
                  (try simp only [Act.put, List.getElem_toArray, List.getElem_cons_zero, List.getElem_cons_succ, List.setIfInBounds_toArray, List.set_cons_zero, List.set_cons_succ])
                  refine wpAnyH_take (i := 5) (v := .bool false) rfl (by kernel_rfl) (by kernel_rfl) (by kernel_rfl) (fun _ _ _ h => h) (Or.inl ⟨by rfl, by intro w hSw; (try dsimp only at hSw); go_simp⟩) (by assumption) ?_
                  (try simp only [Act.put, List.getElem_toArray, List.getElem_cons_zero, List.getElem_cons_succ, List.setIfInBounds_toArray, List.set_cons_zero, List.set_cons_succ])
                  refine wpAnyH_take (i := 6) (v := .bool false) rfl (by kernel_rfl) (by kernel_rfl) (by kernel_rfl) (fun _ _ _ h => h) (Or.inl ⟨by rfl, by intro w hSw; (try dsimp only at hSw); go_simp⟩) (by assumption) ?_
                  (try simp only [Act.put, List.getElem_toArray, List.getElem_cons_zero, List.getElem_cons_succ, List.setIfInBounds_toArray, List.set_cons_zero, List.set_cons_succ])
                  refine wpAnyH_take (i := 7) (v := .int .i64 i) rfl (by kernel_rfl) (by kernel_rfl) (by kernel_rfl) (fun _ _ _ h => h) (Or.inl ⟨by rfl, by intro w hSw; (try dsimp only at hSw); go_simp⟩) (by assumption) ?_
                  (try simp only [Act.put, List.getElem_toArray, List.getElem_cons_zero, List.getElem_cons_succ, List.setIfInBounds_toArray, List.set_cons_zero, List.set_cons_succ])
                  refine wpAnyH_take (i := 8) (v := .pointer (some ⟨gb, i * 2, none⟩)) rfl (by kernel_rfl) (by kernel_rfl) (by kernel_rfl) (fun _ _ _ h => h) (Or.inl ⟨by rfl, by intro w hSw; (try dsimp only at hSw); go_simp⟩) (by assumption) ?_
                  (try simp only [Act.put, List.getElem_toArray, List.getElem_cons_zero, List.getElem_cons_succ, List.setIfInBounds_toArray, List.set_cons_zero, List.set_cons_succ])
                  refine wpAnyH_take (i := 9) (v := .agg #[.int .i64 zB, .int .i64 zB]) rfl (by kernel_rfl) (by kernel_rfl) (by kernel_rfl) (fun _ _ _ h => h) (Or.inl ⟨by rfl, by intro w hSw; (try dsimp only at hSw); go_simp⟩) (by assumption) ?_
                  (try simp only [Act.put, List.getElem_toArray, List.getElem_cons_zero, List.getElem_cons_succ, List.setIfInBounds_toArray, List.set_cons_zero, List.set_cons_succ])
                  refine wpAnyH_take (i := 10) (v := .int .i64 zB) rfl (by kernel_rfl) (by kernel_rfl) (by kernel_rfl) (fun _ _ _ h => h) (Or.inl ⟨by rfl, by intro w hSw; (try dsimp only at hSw); go_simp⟩) (by assumption) ?_
                  (try simp only [Act.put, List.getElem_toArray, List.getElem_cons_zero, List.getElem_cons_succ, List.setIfInBounds_toArray, List.set_cons_zero, List.set_cons_succ])
                  refine wpAnyH_ready (rs := [11]) (by kernel_rfl) (by simp) ?_
                  refine AllReadyH.cons rfl (fun K hK => ?_) AllReadyH.nil
                  go_simp
                  (with_reducible refine (point_any zB _).mono ?_)
                  rintro e v2 ⟨rfl, hb⟩
                  (try dsimp only)
                  have Y2 := Lib.hid (below_mono Y1.out hb)
                  clear hb
                  (try go_wp2_with fail)
                  refine hK.out _ _ (JS.out _ Y2.out) (fun hHeld2 => ?_)
                  clear hK K hHeld
                  have hHeld := hHeld2
                  clear hHeld2
                  (try simp only [Act.put, List.getElem_toArray, List.getElem_cons_zero, List.getElem_cons_succ, List.setIfInBounds_toArray, List.set_cons_zero, List.set_cons_succ])
                  refine wpAnyH_take (i := 12) (v := .bool false) rfl (by kernel_rfl) (by kernel_rfl) (by kernel_rfl) (fun _ _ _ h => h) (Or.inl ⟨by rfl, by intro w hSw; (try dsimp only at hSw); go_simp⟩) (by assumption) ?_
                  (try simp only [Act.put, List.getElem_toArray, List.getElem_cons_zero, List.getElem_cons_succ, List.setIfInBounds_toArray, List.set_cons_zero, List.set_cons_succ])
                  refine wpAnyH_take (i := 13) (v := .bool false) rfl (by kernel_rfl) (by kernel_rfl) (by kernel_rfl) (fun _ _ _ h => h) (Or.inl ⟨by rfl, by intro w hSw; (try dsimp only at hSw); go_simp⟩) (by assumption) ?_
                  (try simp only [Act.put, List.getElem_toArray, List.getElem_cons_zero, List.getElem_cons_succ, List.setIfInBounds_toArray, List.set_cons_zero, List.set_cons_succ])
                  refine wpAnyH_done (by kernel_rfl) ?_ _
                  have BR2 := Lib.hid (below_mono BR.out Y2.out)
                  clear JS Y0 Y1 Y2 hHeld hqa hqb
                  go_wp2
                  go_roundw
                  case rel => exact ⟨i + 1, by omega, by go_num, BR2.out⟩
                  case measure => simp [intOf]; omega
            · obtain rfl : i = 3 := by omega
              have ti : decide (((3 : Nat) : Int) < 3) = false := rfl
              have BF := Lib.hid (below_mono BX.out BR.out)
              go_wp2
              go_ret
              exact ⟨rfl, BF.out⟩
    · generalize chkE bs = x at *
      have t0 : (x != 0) = true := bne_iff_ne.2 hc
      clear hc HG
      go_wp2
      go_ret
      exact ⟨rfl, B3.out⟩

end Go.Proofs.Ytlekjkljajeodaa

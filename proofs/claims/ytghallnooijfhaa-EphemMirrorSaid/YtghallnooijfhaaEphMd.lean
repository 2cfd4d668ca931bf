import Derived.Test.YtghallnooijfhaaMg11
import Derived.Test.YtghallnooijfhaaEphH
namespace Go.Proofs.Ytghallnooijfhaa
open Go.RowKit
attribute [local go_sem ↓] Go.wp_at_zero Go.wp_at_succ
theorem iv_self (a b : Int) (W : World) : (Op.equalIn 10000 36 (.agg #[.int .i64 a, .int .i64 b]) (.agg #[.int .i64 a, .int .i64 b])).run Try.prog W = .ok true W := by
  rw [iv_eqlIn 9998]; simp

/-- A body's first segment. -/
theorem first_seg {bs : List BG} {k : Nat} (hg : grE bs = false) (hc : chkE bs = 0) (hk : k < bs.length) : ∃ hs : 0 < (bs[k]'hk).ss.length, OkSeg ((bs[k]'hk).ss[0]'hs) := by
  obtain ⟨-, -, h3⟩ := chkE_ok hc
  have hs := (h3.b k hk).ne
  exact ⟨hs, ok_seg hg hc (List.getElem_mem hk) (List.getElem_mem hs)⟩

set_option maxRecDepth 100000 in
set_option maxHeartbeats 8000000 in
theorem ephemMirror_walk (bs : List BG) (A : Option Addr) (c : Nat) (i t : Int) (W0 : World) (hs : SlB W0 W0.heap.size A bs c) :
    Calls Try.prog 3 #[.agg #[.slice A bs.length c], .int .i64 i, .int .i64 t] W0 fun e w' => e = .returned (.bool true) ∧ Below W0.heap.size W0 w' := by
  have hm := hs.len
  obtain ⟨ii, hii, hii0, hii1, hii2⟩ := info_parts (show (Try.prog.info? 2).map (fun i => (i.zero, i.size, i.bytes)) = some (some (.int .i64 0), 1, 8) by kernel_rfl)
  have S := Lib.hid hs
  clear hs
  have SW := Lib.hid (fun W (h : Below W0.heap.size W0 W) => S.out.below h)
  go_enter Try.func3, Try.ntmps3
  go_wp2_with fail
  generalize hw0 : W0.alloc (.cells #[.slice A bs.length c] 24) = w0 at *
  have B0 : Hid (Below W0.heap.size W0 w0) := by rw [← hw0]; exact blw1 _ _
  have K0 : Hid (BlkV w0 W0.heap.size 24 #[.slice A bs.length c]) := by rw [← hw0]; exact BlkV.fresh rfl _ _
  clear hw0
  refine (alive_any _).mono ?_
  rintro e w1 ⟨rfl, hb⟩
  have B1 := Lib.hid (below_mono B0.out hb)
  have K1 := Lib.hid (K0.out.keep hb)
  clear hb B0 K0
  have k0 := K1.out.at_ 0 rfl
  have hlk := K1.out.lt
  go_wp2_with fail
  refine (rgreat_any bs A c _ w1 (SW.out _ B1.out)).mono ?_
  rintro e w2 ⟨rfl, hb⟩
  have B2 := Lib.hid (below_mono B1.out hb)
  have K2 := Lib.hid (K1.out.keep hb)
  clear hb B1 K1 k0 hlk
  have k0 := K2.out.at_ 0 rfl
  have hlk := K2.out.lt
  cases hg : grE bs with
  | true =>
    go_wp2
    go_ret
    exact ⟨rfl, B2.out⟩
  | false =>
    have HG := Lib.hid hg
    clear hg
    go_wp2_with fail
    refine (recheck_any bs A c _ w2 (SW.out _ B2.out)).mono ?_
    rintro e w3 ⟨rfl, hb⟩
    have B3 := Lib.hid (below_mono B2.out hb)
    have K3 := Lib.hid (K2.out.keep hb)
    clear hb B2 K2 k0 hlk
    have k0 := K3.out.at_ 0 rfl
    have hlk := K3.out.lt
    by_cases hc : chkE bs = 0
    · rw [hc]
      have HC := Lib.hid hc
      clear hc
      by_cases h1 : i < 0
      · have t1 : decide (i < 0) = true := decide_eq_true h1
        go_wp2
        go_ret
        exact ⟨rfl, B3.out⟩
      · have t1 : decide (i < 0) = false := decide_eq_false h1
        by_cases h2 : (bs.length : Int) ≤ i
        · have t2 : decide ((bs.length : Int) ≤ i) = true := decide_eq_true h2
          go_wp2
          go_ret
          exact ⟨rfl, B3.out⟩
        · have t2 : decide ((bs.length : Int) ≤ i) = false := decide_eq_false h2
          obtain ⟨k, rfl⟩ : ∃ k : Nat, i = k := ⟨i.toNat, by omega⟩
          have hk : k < bs.length := by omega
          have t2n : decide (bs.length ≤ k) = false := decide_eq_false (by omega)
          obtain ⟨hs0, hok⟩ := first_seg HG.out HC.out hk
          have FP := Lib.hid (first_pl (t := t) HC.out hk hs0)
          have CP := Lib.hid (fun V (h : Below W0.heap.size W0 V) => ePlace_any bs A c W0.heap.size k t V (SW.out V h) HG.out)
          have CS := Lib.hid (fun V (h : Below W0.heap.size W0 V) => eSpeed_any bs A c W0.heap.size k t V (SW.out V h) HG.out)
          obtain ⟨b, o, rfl, -, q0, q1, q2, q3, hb⟩ := (SW.out _ B3.out).at_ hk
          have OK := Lib.hid (fun V (h : Below W0.heap.size W0 V) => ((SW.out V h).all _ (List.getElem_mem hk)).sl)
          clear hb q0 q1 q2 h1 h2
          generalize bs[k]'hk = y at *
          obtain ⟨yA, hyA⟩ : ∃ a, y.A = a := ⟨_, rfl⟩
          rw [hyA] at q3 OK
          clear hyA
          obtain ⟨b2, o2, rfl, -, p0, p1, p2, p3, p4, hos⟩ := (OK.out _ B3.out).at_ hs0
          have OKS := Lib.hid (fun V (h : Below W0.heap.size W0 V) => (OK.out V h).all _ (List.getElem_mem hs0))
          clear hos OK
          have OKG := Lib.hid hok
          obtain ⟨pp1, pf1, pf2, pt1, pt2, pl0, pl1, pl2⟩ := seg_parts hok
          have n0 := hok.n0
          have n1 := hok.n1
          have n2 := hok.n2
          clear hok pl0 pl1 pl2
          simp only [Nat.zero_mul, Nat.add_zero] at p0 p1 p2 p3 p4
          generalize y.ss[0]'hs0 = s at *
          go_upto_region 5 with fail
          generalize hwx : w3.alloc (.cells #[.int .i64 s.F, .int .i64 s.T, .slice s.A0 s.l0.length s.c0, .slice s.A1 s.l1.length s.c1, .slice s.A2 s.l2.length s.c2] 31) = wx at *
          have BX : Hid (Below W0.heap.size W0 wx) := by rw [← hwx]; exact below_mono B3.out (blw1 _ _)
          have KS : Hid (BlkV wx w3.heap.size 31 #[.int .i64 s.F, .int .i64 s.T, .slice s.A0 s.l0.length s.c0, .slice s.A1 s.l1.length s.c1, .slice s.A2 s.l2.length s.c2]) := by rw [← hwx]; exact BlkV.fresh rfl _ _
          have KE : Hid (BlkV wx W0.heap.size 24 #[.slice (some ⟨b, o, none⟩) bs.length c]) := by rw [← hwx]; exact K3.out.alloc _
          have hgs : W0.heap.size ≤ w3.heap.size := B3.out.size
          have hge : W0.heap.size ≠ w3.heap.size := by have := K3.out.lt; omega
          clear hwx q3 p0 p1 p2 p3 p4 k0 hlk K3 B3 SW S
          generalize w3.heap.size = gs at *
          have s0 := KS.out.at_ 0 rfl
          have s1 := KS.out.at_ 1 rfl
          by_cases a1 : t < s.F
          · have ta : decide (t < s.F) = true := decide_eq_true a1
            go_wp2
            go_ret
            exact ⟨rfl, BX.out⟩
          · have ta : decide (t < s.F) = false := decide_eq_false a1
            by_cases a2 : s.T < t
            · have tb : decide (s.T < t) = true := decide_eq_true a2
              go_wp2
              go_ret
              exact ⟨rfl, BX.out⟩
            · have tb : decide (s.T < t) = false := decide_eq_false a2
              have a3 : s.F ≤ t := by omega
              have a4 : t ≤ s.T := by omega
              obtain ⟨f1, f2⟩ := FP.out a3 a4
              rw [f1] at CP
              rw [f2] at CS
              clear a1 a2 f1 f2 FP HC HG
              go_upto_region 7 with fail
              go_cut [9, 10] from 72 to 81 (fun s9 s10 wy => ∃ gt gd : Nat, s9 = .pointer (some ⟨gt, 0, none⟩) ∧ s10 = .pointer (some ⟨gd, 0, none⟩) ∧ gt ≠ gd ∧ wx.heap.size ≤ gt ∧ wx.heap.size ≤ gd ∧ BlkV wy gt 31 #[.int .i64 s.F, .int .i64 s.T, .slice none 0 0, .slice none 0 0, .slice none 0 0] ∧ BlkV wy gd 31 #[.int .i64 s.F, .int .i64 s.T, .slice none 0 0, .slice none 0 0, .slice none 0 0] ∧ Below wx.heap.size wx wy)
              case first =>
                have JS : Hid (∀ X, Below wx.heap.size wx X → X.cell? ⟨gs, 0, none⟩ = some (.int .i64 s.F) ∧ X.cell? ⟨gs, 1, none⟩ = some (.int .i64 s.T)) := fun X h => ⟨kept_cell h s0, kept_cell h s1⟩
                have Y0 : Hid (Below wx.heap.size wx wx.drew) := (Below.refl _ _).drew
                refine wp_region_held_drew (S := fun w' => w'.cell? ⟨gs, 0, none⟩ = some (.int .i64 s.F) ∧ w'.cell? ⟨gs, 1, none⟩ = some (.int .i64 s.T)) (by kernel_rfl) (JS.out _ Y0.out) (fun hHeld => ?_)
                refine wpAnyH_take (i := 0) (v := .pointer (some ⟨gs, 0, none⟩)) rfl (by kernel_rfl) (by kernel_rfl) (by kernel_rfl) (fun _ _ _ h => h) (Or.inl ⟨by rfl, by intro w hSw; (try dsimp only at hSw); go_simp⟩) (by assumption) ?_
                (try simp only [Act.put, List.getElem_toArray, List.getElem_cons_zero, List.setIfInBounds_toArray, List.set_cons_zero, List.set_cons_succ])
                refine wpAnyH_take (i := 1) (v := .int .i64 s.F) rfl (by kernel_rfl) (by kernel_rfl) (by kernel_rfl) (fun _ _ _ h => h) (Or.inl ⟨by rfl, by intro w hSw; (try dsimp only at hSw); go_simp⟩) (by assumption) ?_
                (try simp only [Act.put, List.getElem_toArray, List.getElem_cons_zero, List.getElem_cons_succ, List.setIfInBounds_toArray, List.set_cons_zero, List.set_cons_succ])
                refine wpAnyH_take (i := 2) (v := .pointer (some ⟨gs, 1, none⟩)) rfl (by kernel_rfl) (by kernel_rfl) (by kernel_rfl) (fun _ _ _ h => h) (Or.inl ⟨by rfl, by intro w hSw; (try dsimp only at hSw); go_simp⟩) (by assumption) ?_
                (try simp only [Act.put, List.getElem_toArray, List.getElem_cons_zero, List.getElem_cons_succ, List.setIfInBounds_toArray, List.set_cons_zero, List.set_cons_succ])
                refine wpAnyH_take (i := 3) (v := .int .i64 s.T) rfl (by kernel_rfl) (by kernel_rfl) (by kernel_rfl) (fun _ _ _ h => h) (Or.inl ⟨by rfl, by intro w hSw; (try dsimp only at hSw); go_simp⟩) (by assumption) ?_
                (try simp only [Act.put, List.getElem_toArray, List.getElem_cons_zero, List.getElem_cons_succ, List.setIfInBounds_toArray, List.set_cons_zero, List.set_cons_succ])
                refine wpAnyH_take (i := 4) (v := .agg #[.int .i64 s.F, .int .i64 s.T, .slice none 0 0, .slice none 0 0, .slice none 0 0]) rfl (by kernel_rfl) (by kernel_rfl) (by kernel_rfl) (fun _ _ _ h => h) (Or.inl ⟨by rfl, by intro w hSw; (try dsimp only at hSw); go_simp⟩) (by assumption) ?_
                (try simp only [Act.put, List.getElem_toArray, List.getElem_cons_zero, List.getElem_cons_succ, List.setIfInBounds_toArray, List.set_cons_zero, List.set_cons_succ])
                refine wpAnyH_take (i := 5) (v := .pointer (some ⟨gs, 0, none⟩)) rfl (by kernel_rfl) (by kernel_rfl) (by kernel_rfl) (fun _ _ _ h => h) (Or.inl ⟨by rfl, by intro w hSw; (try dsimp only at hSw); go_simp⟩) (by assumption) ?_
                (try simp only [Act.put, List.getElem_toArray, List.getElem_cons_zero, List.getElem_cons_succ, List.setIfInBounds_toArray, List.set_cons_zero, List.set_cons_succ])
                refine wpAnyH_take (i := 6) (v := .int .i64 s.F) rfl (by kernel_rfl) (by kernel_rfl) (by kernel_rfl) (fun _ _ _ h => h) (Or.inl ⟨by rfl, by intro w hSw; (try dsimp only at hSw); go_simp⟩) (by assumption) ?_
                (try simp only [Act.put, List.getElem_toArray, List.getElem_cons_zero, List.getElem_cons_succ, List.setIfInBounds_toArray, List.set_cons_zero, List.set_cons_succ])
                refine wpAnyH_take (i := 7) (v := .pointer (some ⟨gs, 1, none⟩)) rfl (by kernel_rfl) (by kernel_rfl) (by kernel_rfl) (fun _ _ _ h => h) (Or.inl ⟨by rfl, by intro w hSw; (try dsimp only at hSw); go_simp⟩) (by assumption) ?_
                (try simp only [Act.put, List.getElem_toArray, List.getElem_cons_zero, List.getElem_cons_succ, List.setIfInBounds_toArray, List.set_cons_zero, List.set_cons_succ])
                refine wpAnyH_take (i := 8) (v := .int .i64 s.T) rfl (by kernel_rfl) (by kernel_rfl) (by kernel_rfl) (fun _ _ _ h => h) (Or.inl ⟨by rfl, by intro w hSw; (try dsimp only at hSw); go_simp⟩) (by assumption) ?_
                (try simp only [Act.put, List.getElem_toArray, List.getElem_cons_zero, List.getElem_cons_succ, List.setIfInBounds_toArray, List.set_cons_zero, List.set_cons_succ])
                refine wpAnyH_take (i := 9) (v := .agg #[.int .i64 s.F, .int .i64 s.T, .slice none 0 0, .slice none 0 0, .slice none 0 0]) rfl (by kernel_rfl) (by kernel_rfl) (by kernel_rfl) (fun _ _ _ h => h) (Or.inl ⟨by rfl, by intro w hSw; (try dsimp only at hSw); go_simp⟩) (by assumption) ?_
                (try simp only [Act.put, List.getElem_toArray, List.getElem_cons_zero, List.getElem_cons_succ, List.setIfInBounds_toArray, List.set_cons_zero, List.set_cons_succ])
                refine wpAnyH_ready (rs := [10, 11]) (by kernel_rfl) (by simp) ?_
                clear s0 s1
                generalize wx.drew = X at *
                have Z1 := Lib.hid (below_mono Y0.out (blw1 X (.cells #[.int .i64 0, .int .i64 0, .slice none 0 0, .slice none 0 0, .slice none 0 0] 31)))
                have Z2 := Lib.hid (below_mono Z1.out (blw1 (X.alloc (.cells #[.int .i64 0, .int .i64 0, .slice none 0 0, .slice none 0 0, .slice none 0 0] 31)) (.cells #[.int .i64 0, .int .i64 0, .slice none 0 0, .slice none 0 0, .slice none 0 0] 31)))
                have QA : Hid (BlkV ((X.alloc (.cells #[.int .i64 0, .int .i64 0, .slice none 0 0, .slice none 0 0, .slice none 0 0] 31)).alloc (.cells #[.int .i64 0, .int .i64 0, .slice none 0 0, .slice none 0 0, .slice none 0 0] 31)) X.heap.size 31 #[.int .i64 0, .int .i64 0, .slice none 0 0, .slice none 0 0, .slice none 0 0]) := (BlkV.fresh rfl _ _).alloc _
                have QB : Hid (BlkV ((X.alloc (.cells #[.int .i64 0, .int .i64 0, .slice none 0 0, .slice none 0 0, .slice none 0 0] 31)).alloc (.cells #[.int .i64 0, .int .i64 0, .slice none 0 0, .slice none 0 0, .slice none 0 0] 31)) (X.heap.size + 1) 31 #[.int .i64 0, .int .i64 0, .slice none 0 0, .slice none 0 0, .slice none 0 0]) := BlkV.fresh (by simp) _ _
                have hX := Y0.out.size
                obtain ⟨XX, hXX⟩ : ∃ XX, XX = (X.alloc (.cells #[.int .i64 0, .int .i64 0, .slice none 0 0, .slice none 0 0, .slice none 0 0] 31)).alloc (.cells #[.int .i64 0, .int .i64 0, .slice none 0 0, .slice none 0 0, .slice none 0 0] 31) := ⟨_, rfl⟩
                refine AllReadyH.cons rfl (fun K hK => ?_) (AllReadyH.cons rfl (fun K hK => ?_) AllReadyH.nil)
                · skip
                  go_simp
                  refine hK.out _ _ (JS.out _ Z1.out) (fun hHeld2 => ?_)
                  clear hK K hHeld
                  have hHeld := hHeld2
                  clear hHeld2
                  (try simp only [Act.put, List.getElem_toArray, List.getElem_cons_zero, List.getElem_cons_succ, List.setIfInBounds_toArray, List.set_cons_zero, List.set_cons_succ])
                  refine wpAnyH_ready (rs := [11]) (by kernel_rfl) (by simp) ?_
                  refine AllReadyH.cons rfl (fun K hK => ?_) AllReadyH.nil
                  go_simp
                  refine hK.out _ _ (JS.out _ Z2.out) (fun hHeld2 => ?_)
                  clear hK K hHeld
                  have hHeld := hHeld2
                  clear hHeld2
                  (try simp only [Act.put, List.getElem_toArray, List.getElem_cons_zero, List.getElem_cons_succ, List.setIfInBounds_toArray, List.set_cons_zero, List.set_cons_succ])
                  rw [← hXX]
                  rw [← hXX] at hHeld QA QB Z2
                  clear hXX Z1
                  have c0 := QA.out.at_ 0 rfl
                  have c1 := QA.out.at_ 1 rfl
                  have c2 := QA.out.at_ 2 rfl
                  have c3 := QA.out.at_ 3 rfl
                  have c4 := QA.out.at_ 4 rfl
                  have d0 := QA.out.frozen 0
                  have d1 := QA.out.frozen 1
                  have d2 := QA.out.frozen 2
                  have d3 := QA.out.frozen 3
                  have d4 := QA.out.frozen 4
                  have P1 := Lib.hid (QA.out.put5 (.int .i64 s.F) (.int .i64 s.T) (.slice none 0 0) (.slice none 0 0) (.slice none 0 0))
                  have P2 := Lib.hid (QB.out.far5 (g' := X.heap.size) (show (X.heap.size + 1) ≠ X.heap.size by omega) (.int .i64 s.F) (.int .i64 s.T) (.slice none 0 0) (.slice none 0 0) (.slice none 0 0))
                  have P3 := Lib.hid (below_set5 (g := X.heap.size) Z2.out (by omega) (.int .i64 s.F) (.int .i64 s.T) (.slice none 0 0) (.slice none 0 0) (.slice none 0 0))
                  refine wpAnyH_ready (rs := [12]) (by kernel_rfl) (by simp) ?_
                  refine AllReadyH.cons rfl (fun K hK => ?_) AllReadyH.nil
                  go_simp
                  refine hK.out _ _ (JS.out _ P3.out) (fun hHeld2 => ?_)
                  clear hK K hHeld
                  have hHeld := hHeld2
                  clear hHeld2
                  (try simp only [Act.put, List.getElem_toArray, List.getElem_cons_zero, List.getElem_cons_succ, List.setIfInBounds_toArray, List.set_cons_zero, List.set_cons_succ])
                  clear c0 d0
                  clear c1 d1
                  clear c2 d2
                  clear c3 d3
                  clear c4 d4
                  obtain ⟨X5, hX5⟩ : ∃ X5, X5 = ((((XX.setCell ⟨X.heap.size, 0, none⟩ (.int .i64 s.F)).setCell ⟨X.heap.size, 1, none⟩ (.int .i64 s.T)).setCell ⟨X.heap.size, 2, none⟩ (.slice none 0 0)).setCell ⟨X.heap.size, 3, none⟩ (.slice none 0 0)).setCell ⟨X.heap.size, 4, none⟩ (.slice none 0 0) := ⟨_, rfl⟩
                  rw [← hX5] at hHeld P1 P2 P3 ⊢
                  clear hX5 QA QB Z2
                  have c0 := P2.out.at_ 0 rfl
                  have c1 := P2.out.at_ 1 rfl
                  have c2 := P2.out.at_ 2 rfl
                  have c3 := P2.out.at_ 3 rfl
                  have c4 := P2.out.at_ 4 rfl
                  have d0 := P2.out.frozen 0
                  have d1 := P2.out.frozen 1
                  have d2 := P2.out.frozen 2
                  have d3 := P2.out.frozen 3
                  have d4 := P2.out.frozen 4
                  have P4 := Lib.hid (P2.out.put5 (.int .i64 s.F) (.int .i64 s.T) (.slice none 0 0) (.slice none 0 0) (.slice none 0 0))
                  have P5 := Lib.hid (P1.out.far5 (g' := (X.heap.size + 1)) (show X.heap.size ≠ (X.heap.size + 1) by omega) (.int .i64 s.F) (.int .i64 s.T) (.slice none 0 0) (.slice none 0 0) (.slice none 0 0))
                  have P6 := Lib.hid (below_set5 (g := (X.heap.size + 1)) P3.out (by omega) (.int .i64 s.F) (.int .i64 s.T) (.slice none 0 0) (.slice none 0 0) (.slice none 0 0))
                  refine wpAnyH_ready (rs := [13]) (by kernel_rfl) (by simp) ?_
                  refine AllReadyH.cons rfl (fun K hK => ?_) AllReadyH.nil
                  go_simp
                  refine hK.out _ _ (JS.out _ P6.out) (fun hHeld2 => ?_)
                  clear hK K hHeld
                  have hHeld := hHeld2
                  clear hHeld2
                  (try simp only [Act.put, List.getElem_toArray, List.getElem_cons_zero, List.getElem_cons_succ, List.setIfInBounds_toArray, List.set_cons_zero, List.set_cons_succ])
                  refine wpAnyH_done (by kernel_rfl) ?_ _
                  clear c0 d0
                  clear c1 d1
                  clear c2 d2
                  clear c3 d3
                  clear c4 d4
                  go_wp2_with fail
                  go_meet
                  exact ⟨X.heap.size, (X.heap.size + 1), rfl, rfl, by omega, by omega, by omega, P5.out, P4.out, P6.out⟩
                · skip
                  go_simp
                  refine hK.out _ _ (JS.out _ Z1.out) (fun hHeld2 => ?_)
                  clear hK K hHeld
                  have hHeld := hHeld2
                  clear hHeld2
                  (try simp only [Act.put, List.getElem_toArray, List.getElem_cons_zero, List.getElem_cons_succ, List.setIfInBounds_toArray, List.set_cons_zero, List.set_cons_succ])
                  refine wpAnyH_ready (rs := [10]) (by kernel_rfl) (by simp) ?_
                  refine AllReadyH.cons rfl (fun K hK => ?_) AllReadyH.nil
                  go_simp
                  refine hK.out _ _ (JS.out _ Z2.out) (fun hHeld2 => ?_)
                  clear hK K hHeld
                  have hHeld := hHeld2
                  clear hHeld2
                  (try simp only [Act.put, List.getElem_toArray, List.getElem_cons_zero, List.getElem_cons_succ, List.setIfInBounds_toArray, List.set_cons_zero, List.set_cons_succ])
                  rw [← hXX]
                  rw [← hXX] at hHeld QA QB Z2
                  clear hXX Z1
                  have c0 := QB.out.at_ 0 rfl
                  have c1 := QB.out.at_ 1 rfl
                  have c2 := QB.out.at_ 2 rfl
                  have c3 := QB.out.at_ 3 rfl
                  have c4 := QB.out.at_ 4 rfl
                  have d0 := QB.out.frozen 0
                  have d1 := QB.out.frozen 1
                  have d2 := QB.out.frozen 2
                  have d3 := QB.out.frozen 3
                  have d4 := QB.out.frozen 4
                  have P1 := Lib.hid (QB.out.put5 (.int .i64 s.F) (.int .i64 s.T) (.slice none 0 0) (.slice none 0 0) (.slice none 0 0))
                  have P2 := Lib.hid (QA.out.far5 (g' := (X.heap.size + 1)) (show X.heap.size ≠ (X.heap.size + 1) by omega) (.int .i64 s.F) (.int .i64 s.T) (.slice none 0 0) (.slice none 0 0) (.slice none 0 0))
                  have P3 := Lib.hid (below_set5 (g := (X.heap.size + 1)) Z2.out (by omega) (.int .i64 s.F) (.int .i64 s.T) (.slice none 0 0) (.slice none 0 0) (.slice none 0 0))
                  refine wpAnyH_ready (rs := [12]) (by kernel_rfl) (by simp) ?_
                  refine AllReadyH.cons rfl (fun K hK => ?_) AllReadyH.nil
                  go_simp
                  refine hK.out _ _ (JS.out _ P3.out) (fun hHeld2 => ?_)
                  clear hK K hHeld
                  have hHeld := hHeld2
                  clear hHeld2
                  (try simp only [Act.put, List.getElem_toArray, List.getElem_cons_zero, List.getElem_cons_succ, List.setIfInBounds_toArray, List.set_cons_zero, List.set_cons_succ])
                  clear c0 d0
                  clear c1 d1
                  clear c2 d2
                  clear c3 d3
                  clear c4 d4
                  obtain ⟨X5, hX5⟩ : ∃ X5, X5 = ((((XX.setCell ⟨(X.heap.size + 1), 0, none⟩ (.int .i64 s.F)).setCell ⟨(X.heap.size + 1), 1, none⟩ (.int .i64 s.T)).setCell ⟨(X.heap.size + 1), 2, none⟩ (.slice none 0 0)).setCell ⟨(X.heap.size + 1), 3, none⟩ (.slice none 0 0)).setCell ⟨(X.heap.size + 1), 4, none⟩ (.slice none 0 0) := ⟨_, rfl⟩
                  rw [← hX5] at hHeld P1 P2 P3 ⊢
                  clear hX5 QA QB Z2
                  have c0 := P2.out.at_ 0 rfl
                  have c1 := P2.out.at_ 1 rfl
                  have c2 := P2.out.at_ 2 rfl
                  have c3 := P2.out.at_ 3 rfl
                  have c4 := P2.out.at_ 4 rfl
                  have d0 := P2.out.frozen 0
                  have d1 := P2.out.frozen 1
                  have d2 := P2.out.frozen 2
                  have d3 := P2.out.frozen 3
                  have d4 := P2.out.frozen 4
                  have P4 := Lib.hid (P2.out.put5 (.int .i64 s.F) (.int .i64 s.T) (.slice none 0 0) (.slice none 0 0) (.slice none 0 0))
                  have P5 := Lib.hid (P1.out.far5 (g' := X.heap.size) (show (X.heap.size + 1) ≠ X.heap.size by omega) (.int .i64 s.F) (.int .i64 s.T) (.slice none 0 0) (.slice none 0 0) (.slice none 0 0))
                  have P6 := Lib.hid (below_set5 (g := X.heap.size) P3.out (by omega) (.int .i64 s.F) (.int .i64 s.T) (.slice none 0 0) (.slice none 0 0) (.slice none 0 0))
                  refine wpAnyH_ready (rs := [13]) (by kernel_rfl) (by simp) ?_
                  refine AllReadyH.cons rfl (fun K hK => ?_) AllReadyH.nil
                  go_simp
                  refine hK.out _ _ (JS.out _ P6.out) (fun hHeld2 => ?_)
                  clear hK K hHeld
                  have hHeld := hHeld2
                  clear hHeld2
                  (try simp only [Act.put, List.getElem_toArray, List.getElem_cons_zero, List.getElem_cons_succ, List.setIfInBounds_toArray, List.set_cons_zero, List.set_cons_succ])
                  refine wpAnyH_done (by kernel_rfl) ?_ _
                  clear c0 d0
                  clear c1 d1
                  clear c2 d2
                  clear c3 d3
                  clear c4 d4
                  go_wp2_with fail
                  go_meet
                  exact ⟨(X.heap.size + 1), X.heap.size, rfl, rfl, by omega, by omega, by omega, P5.out, P4.out, P6.out⟩
              case rest =>
                obtain ⟨gt, gd, rfl, rfl, hne, hg1, hg2, kt, kd, hby⟩ := hcut
                have BY := Lib.hid (below_mono BX.out hby)
                have KS1 := Lib.hid (KS.out.keep hby)
                have KE1 := Lib.hid (KE.out.keep hby)
                have hl1 := KS.out.lt
                have hl2 := KE.out.lt
                have M0 := Lib.hid (M6.start (L := LS s 0 0) (b := W0.heap.size) (W0 := W0) kt kd hne (by omega) (by omega) BY.out (LS_zero s))
                have hsz := BY.out.size
                clear kt kd hby s0 s1 BX KS KE
                generalize wc = wy at *
                have d1 : gs ≠ gt ∧ gs ≠ gd ∧ W0.heap.size ≠ gt ∧ W0.heap.size ≠ gd := by omega
                go_wp2
                go_loopw [11] (fun s11 wr => ∃ (i : Nat) (v : Nat → Value), i ≤ 3 ∧ s11 = .int .i64 i ∧ M6 W0.heap.size gt gd s.F s.T W0 wy wr v (LS s i 0) ∧ Hf s i 0) (fun v _ => 3 - (intOf v).toNat)
                case atStart => exact ⟨0, _, by omega, rfl, M0.out, Hf.zero s⟩
                case round =>
                  clear M0
                  obtain ⟨i, v, hi, rfl, hM, hF⟩ := hrel
                  by_cases hi3 : i < 3
                  · have ti : decide ((i : Int) < 3) = true := decide_eq_true (by omega)
                    have M1 := Lib.hid hM
                    have F1 := Lib.hid hF
                    clear hM hF
                    go_wp2
                    go_loopw [12] (fun s12 wr => ∃ (k : Nat) (v : Nat → Value), k ≤ (s.l i).length ∧ s12 = .int .i64 k ∧ M6 W0.heap.size gt gd s.F s.T W0 wy wr v (LS s i k) ∧ Hf s i k) (fun v _ => (s.l i).length - (intOf v).toNat)
                    case atStart => exact ⟨0, _, Nat.zero_le _, rfl, M1.out, F1.out⟩
                    case round =>
                      clear M1 F1
                      obtain ⟨j, v, hj, rfl, hM, hF⟩ := hrel
                      have M1 := Lib.hid hM
                      have F1 := Lib.hid hF
                      clear hM hF
                      have KS2 := Lib.hid (M1.out.ot _ _ _ KS1.out d1.1 d1.2.1)
                      have OS := Lib.hid (OKS.out _ M1.out.hb)
                      obtain ⟨Al, cl, pc, hsl, hl6⟩ : ∃ Al cl, wr.cell? ⟨gs, 2 + i, none⟩ = some (.slice Al (s.l i).length cl) ∧ SlI wr W0.heap.size Al (s.l i) cl ∧ (s.l i).length ≤ 6 := by
                        have hk' : i = 0 ∨ i = 1 ∨ i = 2 := by omega
                        rcases hk' with rfl | rfl | rfl
                        · exact ⟨_, _, KS2.out.at_ 2 rfl, OS.out.i0, n0⟩
                        · exact ⟨_, _, KS2.out.at_ 3 rfl, OS.out.i1, n1⟩
                        · exact ⟨_, _, KS2.out.at_ 4 rfl, OS.out.i2, n2⟩
                      have hLN := LS_len s hi3 hj
                      have SL := Lib.hid hsl
                      clear hsl
                      have ST := Lib.hid (LS_step s hi3 (k := j))
                      have NX := Lib.hid (LS_next s i)
                      generalize hll : s.l i = l at *
                      by_cases hjl : j < l.length
                      · have tj : decide ((j : Int) < (l.length : Int)) = true := decide_eq_true (by omega)
                        obtain ⟨bb, oo, rfl, -, hx⟩ := SL.out.atE hjl
                        have hx64 := SL.out.bdD j
                        have hgd : l[j]'hjl = l.getD j 0 := by rw [List.getD_eq_getElem?_getD, List.getElem?_eq_getElem hjl]; rfl
                        replace ST := Lib.hid (ST.out hjl)
                        rw [hgd] at ST
                        have FS := Lib.hid (F1.out.step)
                        rw [hll] at FS
                        clear hgd
                        generalize l.getD j 0 = x at *
                        by_cases b1 : x < -562949953421312
                        · have tx : decide (x < -562949953421312) = true := decide_eq_true b1
                          have BF := M1.out.hb
                          go_wp2
                          go_ret
                          exact ⟨rfl, BF⟩
                        · have tx : decide (x < -562949953421312) = false := decide_eq_false b1
                          by_cases b2 : 562949953421312 < x
                          · have ty : decide (562949953421312 < x) = true := decide_eq_true b2
                            have BF := M1.out.hb
                            go_wp2
                            go_ret
                            exact ⟨rfl, BF⟩
                          · have ty : decide (562949953421312 < x) = false := decide_eq_false b2
                            have FN := Lib.hid (FS.out ⟨by omega, by omega⟩)
                            have r2 : -9223372036854775808 ≤ 2 * x ∧ 2 * x ≤ 9223372036854775807 := by omega
                            have r3 : -9223372036854775808 ≤ -x ∧ -x ≤ 9223372036854775807 := by omega
                            clear FS b1 b2 hx64
                            obtain ⟨q1, q2⟩ := M1.out.cellD hi3
                            have HD : Hid ((cI (LS s i j (3 + i))).length = j) := hLN.2
                            have HT : Hid ((cI (LS s i j i)).length = j) := hLN.1
                            have HD1 : Hid (∀ z, (cI (LS s i j (3 + i)) ++ [Value.int .i64 z]).length = j + 1) := fun z => by rw [List.length_append, HD.out]; rfl
                            have HT1 : Hid (∀ z, (cI (LS s i j i) ++ [Value.int .i64 z]).length = j + 1) := fun z => by rw [List.length_append, HT.out]; rfl
                            clear hLN
                            skip
                            have hwy := M1.out.wy
                            have hr : (j : Int) % 2 = ((j % 2 : Nat) : Int) := by omega
                            by_cases he : j % 2 = 1
                            · have hz : ((j : Int) % 2 == 1) = true := by rw [hr, he]; rfl
                              rw [if_pos he] at ST
                              clear hr he
                              go_upto_region 18 with (at_builtin; refine wpList_appV rfl _ _ 28 rfl wy.heap.size 2 ii (.int .i64 0) 8 Try.underlying28 hii hii0 rfl hii1 hii2 _ (cI (LS s i j (3 + i))) rfl (M1.out.ow (3 + i) (by omega)) (.int .i64 (2 * x)) rfl 2 rfl (by rw [HD.out]; omega) (by rw [HD.out]; omega) hwy ?_; intro A1 c1 v1 hown hgrow hat; rw [HD1.out] at hown hat ⊢; have h2 := M1.out.appD hi3 hgrow hown hat; have m1 := (M1.out.midD hi3 hgrow).1; have m2 := (M1.out.midD hi3 hgrow).2; obtain ⟨L2, hL2⟩ : ∃ L2, L2 = upd (LS s i j) (3 + i) (LS s i j (3 + i) ++ [2 * x]) := ⟨_, rfl⟩; rw [← hL2] at h2 ST; have hLi : Hid (L2 i = LS s i j i) := (by subst hL2; exact upd_ne _ _ (by omega)); generalize upd v (3 + i) (Value.slice A1 (j + 1) c1) = v2 at *; have M2 := Lib.hid h2; have hwy2 := M2.out.wy; have T1 := (M2.out.cellT hi3).1; have HU : Hid ((cI (L2 i)).length = j) := (by rw [hLi.out]; exact HT.out); have HU1 : Hid (∀ z, (cI (L2 i) ++ [Value.int .i64 z]).length = j + 1) := fun z => (by rw [hLi.out]; exact HT1.out z); rw [← hLi.out] at ST; clear h2 hown hgrow hat q1 q2 hx hL2)
                              skip
                              generalize v1.setCell ⟨gd, 2 + i, none⟩ (Value.slice A1 (j + 1) c1) = vw at *
                              skip
                              go_wp2_with (at_builtin; refine wpList_appV rfl _ _ 28 rfl wy.heap.size 2 ii (.int .i64 0) 8 Try.underlying28 hii hii0 rfl hii1 hii2 _ (cI (L2 i)) rfl (M2.out.ow i (by omega)) (.int .i64 (-x)) rfl 2 rfl (by rw [HU.out]; omega) (by rw [HU.out]; omega) hwy2 ?_; intro A2 c2 v3 hown hgrow hat; rw [HU1.out] at hown hat ⊢; have h3 := M2.out.appT hi3 hgrow hown hat; have m3 := (M2.out.midT hi3 hgrow).1; have m4 := (M2.out.midT hi3 hgrow).2; rw [ST.out] at h3; have M3 := Lib.hid h3; clear h3 hown hgrow hat T1)
                              go_roundw
                              case rel => exact ⟨j + 1, _, by omega, by go_num, M3.out, FN.out⟩
                              case measure => simp [intOf]; omega
                            · have hz : ((j : Int) % 2 == 1) = false := by rw [hr, beq_eq_false_iff_ne]; omega
                              rw [if_neg he] at ST
                              clear hr he
                              go_upto_region 18 with (at_builtin; refine wpList_appV rfl _ _ 28 rfl wy.heap.size 2 ii (.int .i64 0) 8 Try.underlying28 hii hii0 rfl hii1 hii2 _ (cI (LS s i j (3 + i))) rfl (M1.out.ow (3 + i) (by omega)) (.int .i64 (2 * x)) rfl 2 rfl (by rw [HD.out]; omega) (by rw [HD.out]; omega) hwy ?_; intro A1 c1 v1 hown hgrow hat; rw [HD1.out] at hown hat ⊢; have h2 := M1.out.appD hi3 hgrow hown hat; have m1 := (M1.out.midD hi3 hgrow).1; have m2 := (M1.out.midD hi3 hgrow).2; obtain ⟨L2, hL2⟩ : ∃ L2, L2 = upd (LS s i j) (3 + i) (LS s i j (3 + i) ++ [2 * x]) := ⟨_, rfl⟩; rw [← hL2] at h2 ST; have hLi : Hid (L2 i = LS s i j i) := (by subst hL2; exact upd_ne _ _ (by omega)); generalize upd v (3 + i) (Value.slice A1 (j + 1) c1) = v2 at *; have M2 := Lib.hid h2; have hwy2 := M2.out.wy; have T1 := (M2.out.cellT hi3).1; have HU : Hid ((cI (L2 i)).length = j) := (by rw [hLi.out]; exact HT.out); have HU1 : Hid (∀ z, (cI (L2 i) ++ [Value.int .i64 z]).length = j + 1) := fun z => (by rw [hLi.out]; exact HT1.out z); rw [← hLi.out] at ST; clear h2 hown hgrow hat q1 q2 hx hL2)
                              skip
                              generalize v1.setCell ⟨gd, 2 + i, none⟩ (Value.slice A1 (j + 1) c1) = vw at *
                              skip
                              go_wp2_with (at_builtin; refine wpList_appV rfl _ _ 28 rfl wy.heap.size 2 ii (.int .i64 0) 8 Try.underlying28 hii hii0 rfl hii1 hii2 _ (cI (L2 i)) rfl (M2.out.ow i (by omega)) (.int .i64 (x)) rfl 2 rfl (by rw [HU.out]; omega) (by rw [HU.out]; omega) hwy2 ?_; intro A2 c2 v3 hown hgrow hat; rw [HU1.out] at hown hat ⊢; have h3 := M2.out.appT hi3 hgrow hown hat; have m3 := (M2.out.midT hi3 hgrow).1; have m4 := (M2.out.midT hi3 hgrow).2; rw [ST.out] at h3; have M3 := Lib.hid h3; clear h3 hown hgrow hat T1)
                              go_roundw
                              case rel => exact ⟨j + 1, _, by omega, by go_num, M3.out, FN.out⟩
                              case measure => simp [intOf]; omega
                      · obtain rfl : j = l.length := by omega
                        have tj : decide ((l.length : Int) < (l.length : Int)) = false := decide_eq_false (by omega)
                        have FX : Hid (Hf s (i + 1) 0) := by have h := F1.out; rw [← hll] at h; exact h.next
                        have MX : Hid (M6 W0.heap.size gt gd s.F s.T W0 wy wr v (LS s (i + 1) 0)) := by rw [← NX.out]; exact M1.out
                        go_wp2
                        go_roundw
                        case rel => exact ⟨i + 1, _, by omega, by go_num, MX.out, FX.out⟩
                        case measure => simp [intOf]; omega
                  · obtain rfl : i = 3 := by omega
                    have ti : decide (((3 : Nat) : Int) < 3) = false := rfl
                    obtain ⟨r, d, hmf⟩ := hM.fin hF OKG.out
                    have MF := Lib.hid hmf
                    have KS2 := Lib.hid (hM.ot _ _ _ KS1.out d1.1 d1.2.1)
                    have KE2 := Lib.hid (hM.ot _ _ _ KE1.out d1.2.2.1 d1.2.2.2)
                    have BM := Lib.hid hM.hb
                    clear hM hF hmf KS1 KE1
                    have y0 := MF.out.kt.at_ 0 rfl
                    have y1 := MF.out.kt.at_ 1 rfl
                    have y2 := MF.out.kt.at_ 2 rfl
                    have y3 := MF.out.kt.at_ 3 rfl
                    have y4 := MF.out.kt.at_ 4 rfl
                    have z0 := MF.out.kd.at_ 0 rfl
                    have z1 := MF.out.kd.at_ 1 rfl
                    have z2 := MF.out.kd.at_ 2 rfl
                    have z3 := MF.out.kd.at_ 3 rfl
                    have z4 := MF.out.kd.at_ 4 rfl
                    have lgt := MF.out.kt.lt
                    have lgd := MF.out.kd.lt
                    go_upto_region 22 with fail
                    generalize hwk : (((wr.alloc (.cells #[.int .i64 r.F, .int .i64 r.T, .slice r.A0 r.l0.length r.c0, .slice r.A1 r.l1.length r.c1, .slice r.A2 r.l2.length r.c2] 31)).alloc (.cells #[.int .i64 d.F, .int .i64 d.T, .slice d.A0 d.l0.length d.c0, .slice d.A1 d.l1.length d.c1, .slice d.A2 d.l2.length d.c2] 31)).alloc (.cells #[.string ⟨#[97]⟩, .int .i64 0, .int .i64 0, .slice (some ⟨wr.heap.size, 0, none⟩) 1 1, .string ⟨#[98]⟩, .int .i64 0, .int .i64 0, .slice (some ⟨wr.heap.size + 1, 0, none⟩) 1 1] 34)).alloc (.cells #[.slice (some ⟨wr.heap.size + 1 + 1, 0, none⟩) 2 2] 24) = wk at *
                    have hbk : Below wr.heap.size wr wk := by rw [← hwk]; exact below_mono (below_mono (below_mono (blw1 _ _) (blw1 _ _)) (blw1 _ _)) (blw1 _ _)
                    have h1 : BlkV wk wr.heap.size 31 #[.int .i64 r.F, .int .i64 r.T, .slice r.A0 r.l0.length r.c0, .slice r.A1 r.l1.length r.c1, .slice r.A2 r.l2.length r.c2] := by rw [← hwk]; exact (((BlkV.fresh rfl _ _).alloc _).alloc _).alloc _
                    have h2 : BlkV wk (wr.heap.size + 1) 31 #[.int .i64 d.F, .int .i64 d.T, .slice d.A0 d.l0.length d.c0, .slice d.A1 d.l1.length d.c1, .slice d.A2 d.l2.length d.c2] := by rw [← hwk]; exact ((BlkV.fresh (by simp) _ _).alloc _).alloc _
                    have h3 : BlkV wk (wr.heap.size + 1 + 1) 34 #[.string ⟨#[97]⟩, .int .i64 0, .int .i64 0, .slice (some ⟨wr.heap.size, 0, none⟩) 1 1, .string ⟨#[98]⟩, .int .i64 0, .int .i64 0, .slice (some ⟨wr.heap.size + 1, 0, none⟩) 1 1] := by rw [← hwk]; exact (BlkV.fresh (by simp) _ _).alloc _
                    have KY : Hid (BlkV wk (wr.heap.size + 1 + 1 + 1) 24 #[.slice (some ⟨wr.heap.size + 1 + 1, 0, none⟩) 2 2]) := by rw [← hwk]; exact BlkV.fresh (by simp) _ _
                    have SB := Lib.hid (MF.out.eph hbk _ _ _ h1 h2 h3)
                    have KS := Lib.hid (KS2.out.keep hbk)
                    have KE := Lib.hid (KE2.out.keep hbk)
                    have BK := Lib.hid (below_mono BM.out hbk)
                    obtain ⟨g0, g1, g2, g3, hHas⟩ := MF.out.ans OKG.out (A1 := some ⟨wr.heap.size, 0, none⟩) (A2 := some ⟨wr.heap.size + 1, 0, none⟩) a3 a4
                    have OKP := Lib.hid (plV_okV s t)
                    have OKQ := Lib.hid (plV_okV d t)
                    have OKU := Lib.hid (spR_okV s t)
                    have XE := Lib.hid (spR_e s t)
                    clear hwk h1 h2 h3 hbk KS2 KE2 BM lgt lgd y0 z0 y1 z1 y2 z2 y3 z3 y4 z4
                    generalize hmb : mBs (some ⟨wr.heap.size, 0, none⟩) (some ⟨wr.heap.size + 1, 0, none⟩) r d = mb at *
                    have hml : mb.length = 2 := by rw [← hmb]; rfl
                    clear hmb MF
                    generalize wr.heap.size + 1 + 1 + 1 = gy at *
                    generalize wr.heap.size + 1 + 1 = g3' at *
                    generalize plV s t = p at *
                    generalize plV d t = q at *
                    obtain ⟨u, x, hR⟩ : ∃ u x, spR s t = (u, x) := ⟨_, _, rfl⟩
                    rw [hR] at CS g3 OKU XE
                    clear hR
                    dsimp only at CS g3 OKU XE
                    have C1 : Hid (∀ V, Below wk.heap.size wk V → Calls Try.prog 8 #[.agg #[.slice (some ⟨g3', 0, none⟩) 2 2], .int .i64 0, .int .i64 (s.F + s.T - t)] V fun e w' => e = .returned (.tuple #[.agg #[.int .i64 p.l0, .int .i64 p.h0, .int .i64 p.l1, .int .i64 p.h1, .int .i64 p.l2, .int .i64 p.h2], .int .i64 0]) ∧ Below V.heap.size V w') := fun V h => by
                      have z := ePlace_any mb (some ⟨g3', 0, none⟩) 2 wk.heap.size 0 (s.F + s.T - t) V (SB.out.below h) g0
                      rw [g1, hml] at z
                      exact z
                    have C2 : Hid (∀ V, Below wk.heap.size wk V → Calls Try.prog 8 #[.agg #[.slice (some ⟨g3', 0, none⟩) 2 2], .int .i64 1, .int .i64 (t)] V fun e w' => e = .returned (.tuple #[.agg #[.int .i64 q.l0, .int .i64 q.h0, .int .i64 q.l1, .int .i64 q.h1, .int .i64 q.l2, .int .i64 q.h2], .int .i64 0]) ∧ Below V.heap.size V w') := fun V h => by
                      have z := ePlace_any mb (some ⟨g3', 0, none⟩) 2 wk.heap.size 1 (t) V (SB.out.below h) g0
                      rw [g2, hml] at z
                      exact z
                    clear g1 g2
                    have w1 : -9223372036854775808 ≤ s.F + s.T ∧ s.F + s.T ≤ 9223372036854775807 := by omega
                    have w2 : -9223372036854775808 ≤ s.F + s.T - t ∧ s.F + s.T - t ≤ 9223372036854775807 := by omega
                    have HS := Lib.hid hHas
                    clear hHas
                    have BL : Hid (Below wk.heap.size wk wk) := Lib.hid (Below.refl _ _)
                    have cKE0 := KE.out.at_ 0 rfl
                    go_wp2_with fail
                    refine (CP.out _ BK.out).mono ?_
                    rintro e w4 ⟨rfl, hb⟩
                    dsimp only
                    replace KE := Lib.hid (KE.out.keep hb)
                    replace KS := Lib.hid (KS.out.keep hb)
                    replace KY := Lib.hid (KY.out.keep hb)
                    replace BK := Lib.hid (below_mono BK.out hb)
                    replace BL := Lib.hid (below_mono BL.out hb)
                    clear hb cKE0
                    go_upto_region 23 with fail
                    generalize hwx : w4.alloc (.cells #[.int .i64 p.l0, .int .i64 p.h0, .int .i64 p.l1, .int .i64 p.h1, .int .i64 p.l2, .int .i64 p.h2] 38) = KAw at *
                    have hbx : Below w4.heap.size w4 KAw := by rw [← hwx]; exact blw1 _ _
                    have KA : Hid (BlkV KAw w4.heap.size 38 #[.int .i64 p.l0, .int .i64 p.h0, .int .i64 p.l1, .int .i64 p.h1, .int .i64 p.l2, .int .i64 p.h2]) := by rw [← hwx]; exact BlkV.fresh rfl _ _
                    replace KE := Lib.hid (KE.out.keep hbx)
                    replace KS := Lib.hid (KS.out.keep hbx)
                    replace KY := Lib.hid (KY.out.keep hbx)
                    replace BK := Lib.hid (below_mono BK.out hbx)
                    replace BL := Lib.hid (below_mono BL.out hbx)
                    clear hwx hbx
                    generalize w4.heap.size = ga at *
                    have cKY0 := KY.out.at_ 0 rfl
                    have cKS0 := KS.out.at_ 0 rfl
                    have cKS1 := KS.out.at_ 1 rfl
                    go_wp2_with fail
                    refine (C1.out _ BL.out).mono ?_
                    rintro e w5 ⟨rfl, hb⟩
                    dsimp only
                    replace KE := Lib.hid (KE.out.keep hb)
                    replace KS := Lib.hid (KS.out.keep hb)
                    replace KY := Lib.hid (KY.out.keep hb)
                    replace KA := Lib.hid (KA.out.keep hb)
                    replace BK := Lib.hid (below_mono BK.out hb)
                    replace BL := Lib.hid (below_mono BL.out hb)
                    clear hb cKY0 cKS0 cKS1
                    go_upto_region 24 with fail
                    generalize hwx : w5.alloc (.cells #[.int .i64 p.l0, .int .i64 p.h0, .int .i64 p.l1, .int .i64 p.h1, .int .i64 p.l2, .int .i64 p.h2] 38) = KBw at *
                    have hbx : Below w5.heap.size w5 KBw := by rw [← hwx]; exact blw1 _ _
                    have KB : Hid (BlkV KBw w5.heap.size 38 #[.int .i64 p.l0, .int .i64 p.h0, .int .i64 p.l1, .int .i64 p.h1, .int .i64 p.l2, .int .i64 p.h2]) := by rw [← hwx]; exact BlkV.fresh rfl _ _
                    replace KE := Lib.hid (KE.out.keep hbx)
                    replace KS := Lib.hid (KS.out.keep hbx)
                    replace KY := Lib.hid (KY.out.keep hbx)
                    replace KA := Lib.hid (KA.out.keep hbx)
                    replace BK := Lib.hid (below_mono BK.out hbx)
                    replace BL := Lib.hid (below_mono BL.out hbx)
                    clear hwx hbx
                    generalize w5.heap.size = gb at *
                    have cKY0 := KY.out.at_ 0 rfl
                    go_wp2_with fail
                    refine (C2.out _ BL.out).mono ?_
                    rintro e w6 ⟨rfl, hb⟩
                    dsimp only
                    replace KE := Lib.hid (KE.out.keep hb)
                    replace KS := Lib.hid (KS.out.keep hb)
                    replace KY := Lib.hid (KY.out.keep hb)
                    replace KA := Lib.hid (KA.out.keep hb)
                    replace KB := Lib.hid (KB.out.keep hb)
                    replace BK := Lib.hid (below_mono BK.out hb)
                    replace BL := Lib.hid (below_mono BL.out hb)
                    clear hb cKY0
                    go_upto_region 25 with fail
                    generalize hwx : w6.alloc (.cells #[.int .i64 q.l0, .int .i64 q.h0, .int .i64 q.l1, .int .i64 q.h1, .int .i64 q.l2, .int .i64 q.h2] 38) = KCw at *
                    have hbx : Below w6.heap.size w6 KCw := by rw [← hwx]; exact blw1 _ _
                    have KC : Hid (BlkV KCw w6.heap.size 38 #[.int .i64 q.l0, .int .i64 q.h0, .int .i64 q.l1, .int .i64 q.h1, .int .i64 q.l2, .int .i64 q.h2]) := by rw [← hwx]; exact BlkV.fresh rfl _ _
                    replace KE := Lib.hid (KE.out.keep hbx)
                    replace KS := Lib.hid (KS.out.keep hbx)
                    replace KY := Lib.hid (KY.out.keep hbx)
                    replace KA := Lib.hid (KA.out.keep hbx)
                    replace KB := Lib.hid (KB.out.keep hbx)
                    replace BK := Lib.hid (below_mono BK.out hbx)
                    replace BL := Lib.hid (below_mono BL.out hbx)
                    clear hwx hbx
                    generalize w6.heap.size = gc at *
                    clear CP C1 C2
                    have hqp : ∀ W, (Op.equalIn 10000 38 (.agg #[.int .i64 p.l0, .int .i64 p.h0, .int .i64 p.l1, .int .i64 p.h1, .int .i64 p.l2, .int .i64 p.h2]) (.agg #[.int .i64 p.l0, .int .i64 p.h0, .int .i64 p.l1, .int .i64 p.h1, .int .i64 p.l2, .int .i64 p.h2])).run Try.prog W = .ok true W := fun W => by rw [vec_eqlIn, eqV_self]
                    have cKA0 := KA.out.at_ 0 rfl
                    have cKA1 := KA.out.at_ 1 rfl
                    have cKA2 := KA.out.at_ 2 rfl
                    have cKA3 := KA.out.at_ 3 rfl
                    have cKA4 := KA.out.at_ 4 rfl
                    have cKA5 := KA.out.at_ 5 rfl
                    have cKB0 := KB.out.at_ 0 rfl
                    have cKB1 := KB.out.at_ 1 rfl
                    have cKB2 := KB.out.at_ 2 rfl
                    have cKB3 := KB.out.at_ 3 rfl
                    have cKB4 := KB.out.at_ 4 rfl
                    have cKB5 := KB.out.at_ 5 rfl
                    have cKC0 := KC.out.at_ 0 rfl
                    have cKC1 := KC.out.at_ 1 rfl
                    have cKC2 := KC.out.at_ 2 rfl
                    have cKC3 := KC.out.at_ 3 rfl
                    have cKC4 := KC.out.at_ 4 rfl
                    have cKC5 := KC.out.at_ 5 rfl
                    go_wp2_with fail
                    refine (r17check_ok p OKP.out _).mono ?_
                    rintro e w7 ⟨rfl, hb⟩
                    dsimp only
                    replace KE := Lib.hid (KE.out.keep hb)
                    replace KS := Lib.hid (KS.out.keep hb)
                    replace KY := Lib.hid (KY.out.keep hb)
                    replace KA := Lib.hid (KA.out.keep hb)
                    replace KB := Lib.hid (KB.out.keep hb)
                    replace KC := Lib.hid (KC.out.keep hb)
                    replace BK := Lib.hid (below_mono BK.out hb)
                    replace BL := Lib.hid (below_mono BL.out hb)
                    clear hb cKA0 cKA1 cKA2 cKA3 cKA4 cKA5 cKB0 cKB1 cKB2 cKB3 cKB4 cKB5 cKC0 cKC1 cKC2 cKC3 cKC4 cKC5
                    have cKC0 := KC.out.at_ 0 rfl
                    have cKC1 := KC.out.at_ 1 rfl
                    have cKC2 := KC.out.at_ 2 rfl
                    have cKC3 := KC.out.at_ 3 rfl
                    have cKC4 := KC.out.at_ 4 rfl
                    have cKC5 := KC.out.at_ 5 rfl
                    go_wp2_with fail
                    refine (r17check_ok q OKQ.out _).mono ?_
                    rintro e w8 ⟨rfl, hb⟩
                    dsimp only
                    replace KE := Lib.hid (KE.out.keep hb)
                    replace KS := Lib.hid (KS.out.keep hb)
                    replace KY := Lib.hid (KY.out.keep hb)
                    replace KA := Lib.hid (KA.out.keep hb)
                    replace KB := Lib.hid (KB.out.keep hb)
                    replace KC := Lib.hid (KC.out.keep hb)
                    replace BK := Lib.hid (below_mono BK.out hb)
                    replace BL := Lib.hid (below_mono BL.out hb)
                    clear hb hqp cKC0 cKC1 cKC2 cKC3 cKC4 cKC5
                    go_wp2
                    clear KB
                    go_loopw [21] (fun s21 wr => ∃ i : Nat, i ≤ 3 ∧ s21 = .int .i64 i ∧ Below w8.heap.size w8 wr) (fun v _ => 3 - (intOf v).toNat)
                    case atStart => exact ⟨0, by omega, rfl, Below.refl _ _⟩
                    case round =>
                      obtain ⟨i, hi, rfl, hbr⟩ := hrel
                      by_cases hi3 : i < 3
                      · have ti : decide ((i : Int) < 3) = true := decide_eq_true (by omega)
                        have KA2 := Lib.hid (KA.out.keep hbr)
                        have KC2 := Lib.hid (KC.out.keep hbr)
                        have BR := Lib.hid hbr
                        clear hbr
                        obtain ⟨pl, ph, ql, qh, cp0, cp1, cq0, cq1, m1, m2, m3, m4⟩ : ∃ pl ph ql qh : Int, wr.cell? ⟨ga, i * 2, none⟩ = some (.int .i64 pl) ∧ wr.cell? ⟨ga, i * 2 + 1, none⟩ = some (.int .i64 ph) ∧ wr.cell? ⟨gc, i * 2, none⟩ = some (.int .i64 ql) ∧ wr.cell? ⟨gc, i * 2 + 1, none⟩ = some (.int .i64 qh) ∧ 2 * pl ≤ ql ∧ qh ≤ 2 * ph ∧ OkI pl ph ∧ OkI ql qh := by
                          have hk' : i = 0 ∨ i = 1 ∨ i = 2 := by omega
                          rcases hk' with rfl | rfl | rfl
                          · exact ⟨_, _, _, _, KA2.out.at_ 0 rfl, KA2.out.at_ 1 rfl, KC2.out.at_ 0 rfl, KC2.out.at_ 1 rfl, HS.out.a.1, HS.out.a.2, OKP.out.a, OKQ.out.a⟩
                          · exact ⟨_, _, _, _, KA2.out.at_ 2 rfl, KA2.out.at_ 3 rfl, KC2.out.at_ 2 rfl, KC2.out.at_ 3 rfl, HS.out.b.1, HS.out.b.2, OKP.out.b, OKQ.out.b⟩
                          · exact ⟨_, _, _, _, KA2.out.at_ 4 rfl, KA2.out.at_ 5 rfl, KC2.out.at_ 4 rfl, KC2.out.at_ 5 rfl, HS.out.c.1, HS.out.c.2, OKP.out.c, OKQ.out.c⟩
                        obtain ⟨o1, o2, o3⟩ := m3
                        have tl : decide (ql < 2 * pl) = false := decide_eq_false (by omega)
                        have th : decide (2 * ph < qh) = false := decide_eq_false (by omega)
                        have r1 : IntKind.i64.wrap (2 * pl) = 2 * pl := by rw [IntKind.wrap_i64]; omega
                        have r2 : IntKind.i64.wrap (2 * ph) = 2 * ph := by rw [IntKind.wrap_i64]; omega
                        clear m1 m2 m4 o1 o2 o3
                        go_upto_region 30 with fail
                        have JS : Hid (∀ X, Below wr.heap.size wr X → X.cell? ⟨ga, i * 2, none⟩ = some (.int .i64 pl) ∧ X.cell? ⟨ga, i * 2 + 1, none⟩ = some (.int .i64 ph) ∧ X.cell? ⟨gc, i * 2, none⟩ = some (.int .i64 ql) ∧ X.cell? ⟨gc, i * 2 + 1, none⟩ = some (.int .i64 qh)) := fun X h => ⟨kept_cell h cp0, kept_cell h cp1, kept_cell h cq0, kept_cell h cq1⟩
                        have Y0 : Hid (Below wr.heap.size wr wr.drew) := (Below.refl _ _).drew
                        have i3 : (i : Int) < 3 := by omega
                        have i0 : (0 : Int) ≤ (i : Int) := by omega
                        clear cp0 cp1 cq0 cq1
                        refine wp_region_held_drew (S := fun w' => w'.cell? ⟨ga, i * 2, none⟩ = some (.int .i64 pl) ∧ w'.cell? ⟨ga, i * 2 + 1, none⟩ = some (.int .i64 ph) ∧ w'.cell? ⟨gc, i * 2, none⟩ = some (.int .i64 ql) ∧ w'.cell? ⟨gc, i * 2 + 1, none⟩ = some (.int .i64 qh)) (by kernel_rfl) (JS.out _ Y0.out) (fun hHeld => ?_)
                        refine wpAnyH_take (i := 0) (v := .int .i64 i) rfl (by kernel_rfl) (by kernel_rfl) (by kernel_rfl) (fun _ _ _ h => h) (Or.inl ⟨by rfl, by intro w hSw; (try dsimp only at hSw); go_simp⟩) (by assumption) ?_
                        (try simp only [Act.put, List.getElem_toArray, List.getElem_cons_zero, List.setIfInBounds_toArray, List.set_cons_zero, List.set_cons_succ])
                        refine wpAnyH_take (i := 1) (v := .pointer (some ⟨gc, i * 2, none⟩)) rfl (by kernel_rfl) (by kernel_rfl) (by kernel_rfl) (fun _ _ _ h => h) (Or.inl ⟨by rfl, by intro w hSw; (try dsimp only at hSw); go_simp⟩) (by assumption) ?_
                        (try simp only [Act.put, List.getElem_toArray, List.getElem_cons_zero, List.getElem_cons_succ, List.setIfInBounds_toArray, List.set_cons_zero, List.set_cons_succ])
                        refine wpAnyH_take (i := 2) (v := .pointer (some ⟨gc, i * 2, none⟩)) rfl (by kernel_rfl) (by kernel_rfl) (by kernel_rfl) (fun _ _ _ h => h) (Or.inl ⟨by rfl, by intro w hSw; (try dsimp only at hSw); go_simp⟩) (by assumption) ?_
                        (try simp only [Act.put, List.getElem_toArray, List.getElem_cons_zero, List.getElem_cons_succ, List.setIfInBounds_toArray, List.set_cons_zero, List.set_cons_succ])
                        refine wpAnyH_take (i := 3) (v := .int .i64 ql) rfl (by kernel_rfl) (by kernel_rfl) (by kernel_rfl) (fun _ _ _ h => h) (Or.inl ⟨by rfl, by intro w hSw; (try dsimp only at hSw); go_simp⟩) (by assumption) ?_
                        (try simp only [Act.put, List.getElem_toArray, List.getElem_cons_zero, List.getElem_cons_succ, List.setIfInBounds_toArray, List.set_cons_zero, List.set_cons_succ])
                        refine wpAnyH_take (i := 4) (v := .int .i64 i) rfl (by kernel_rfl) (by kernel_rfl) (by kernel_rfl) (fun _ _ _ h => h) (Or.inl ⟨by rfl, by intro w hSw; (try dsimp only at hSw); go_simp⟩) (by assumption) ?_
                        (try simp only [Act.put, List.getElem_toArray, List.getElem_cons_zero, List.getElem_cons_succ, List.setIfInBounds_toArray, List.set_cons_zero, List.set_cons_succ])
                        refine wpAnyH_take (i := 5) (v := .pointer (some ⟨ga, i * 2, none⟩)) rfl (by kernel_rfl) (by kernel_rfl) (by kernel_rfl) (fun _ _ _ h => h) (Or.inl ⟨by rfl, by intro w hSw; (try dsimp only at hSw); go_simp⟩) (by assumption) ?_
                        (try simp only [Act.put, List.getElem_toArray, List.getElem_cons_zero, List.getElem_cons_succ, List.setIfInBounds_toArray, List.set_cons_zero, List.set_cons_succ])
                        refine wpAnyH_take (i := 6) (v := .pointer (some ⟨ga, i * 2, none⟩)) rfl (by kernel_rfl) (by kernel_rfl) (by kernel_rfl) (fun _ _ _ h => h) (Or.inl ⟨by rfl, by intro w hSw; (try dsimp only at hSw); go_simp⟩) (by assumption) ?_
                        (try simp only [Act.put, List.getElem_toArray, List.getElem_cons_zero, List.getElem_cons_succ, List.setIfInBounds_toArray, List.set_cons_zero, List.set_cons_succ])
                        refine wpAnyH_take (i := 7) (v := .int .i64 pl) rfl (by kernel_rfl) (by kernel_rfl) (by kernel_rfl) (fun _ _ _ h => h) (Or.inl ⟨by rfl, by intro w hSw; (try dsimp only at hSw); go_simp⟩) (by assumption) ?_
                        (try simp only [Act.put, List.getElem_toArray, List.getElem_cons_zero, List.getElem_cons_succ, List.setIfInBounds_toArray, List.set_cons_zero, List.set_cons_succ])
                        refine wpAnyH_take (i := 8) (v := .int .i64 (2 * pl)) rfl (by kernel_rfl) (by kernel_rfl) (by kernel_rfl) (fun _ _ _ h => h) (Or.inl ⟨by rfl, by intro w hSw; (try dsimp only at hSw); go_simp⟩) (by assumption) ?_
                        (try simp only [Act.put, List.getElem_toArray, List.getElem_cons_zero, List.getElem_cons_succ, List.setIfInBounds_toArray, List.set_cons_zero, List.set_cons_succ])
                        refine wpAnyH_take (i := 9) (v := .bool false) rfl (by kernel_rfl) (by kernel_rfl) (by kernel_rfl) (fun _ _ _ h => h) (Or.inl ⟨by rfl, by intro w hSw; (try dsimp only at hSw); go_simp⟩) (by assumption) ?_
                        (try simp only [Act.put, List.getElem_toArray, List.getElem_cons_zero, List.getElem_cons_succ, List.setIfInBounds_toArray, List.set_cons_zero, List.set_cons_succ])
                        refine wpAnyH_take (i := 10) (v := .bool false) rfl (by kernel_rfl) (by kernel_rfl) (by kernel_rfl) (fun _ _ _ h => h) (Or.inl ⟨by rfl, by intro w hSw; (try dsimp only at hSw); go_simp⟩) (by assumption) ?_
                        (try simp only [Act.put, List.getElem_toArray, List.getElem_cons_zero, List.getElem_cons_succ, List.setIfInBounds_toArray, List.set_cons_zero, List.set_cons_succ])
                        refine wpAnyH_take (i := 11) (v := .int .i64 i) rfl (by kernel_rfl) (by kernel_rfl) (by kernel_rfl) (fun _ _ _ h => h) (Or.inl ⟨by rfl, by intro w hSw; (try dsimp only at hSw); go_simp⟩) (by assumption) ?_
                        (try simp only [Act.put, List.getElem_toArray, List.getElem_cons_zero, List.getElem_cons_succ, List.setIfInBounds_toArray, List.set_cons_zero, List.set_cons_succ])
                        refine wpAnyH_take (i := 12) (v := .pointer (some ⟨gc, i * 2, none⟩)) rfl (by kernel_rfl) (by kernel_rfl) (by kernel_rfl) (fun _ _ _ h => h) (Or.inl ⟨by rfl, by intro w hSw; (try dsimp only at hSw); go_simp⟩) (by assumption) ?_
                        (try simp only [Act.put, List.getElem_toArray, List.getElem_cons_zero, List.getElem_cons_succ, List.setIfInBounds_toArray, List.set_cons_zero, List.set_cons_succ])
                        refine wpAnyH_take (i := 13) (v := .pointer (some ⟨gc, i * 2 + 1, none⟩)) rfl (by kernel_rfl) (by kernel_rfl) (by kernel_rfl) (fun _ _ _ h => h) (Or.inl ⟨by rfl, by intro w hSw; (try dsimp only at hSw); go_simp⟩) (by assumption) ?_
                        (try simp only [Act.put, List.getElem_toArray, List.getElem_cons_zero, List.getElem_cons_succ, List.setIfInBounds_toArray, List.set_cons_zero, List.set_cons_succ])
                        refine wpAnyH_take (i := 14) (v := .int .i64 qh) rfl (by kernel_rfl) (by kernel_rfl) (by kernel_rfl) (fun _ _ _ h => h) (Or.inl ⟨by rfl, by intro w hSw; (try dsimp only at hSw); go_simp⟩) (by assumption) ?_
                        (try simp only [Act.put, List.getElem_toArray, List.getElem_cons_zero, List.getElem_cons_succ, List.setIfInBounds_toArray, List.set_cons_zero, List.set_cons_succ])
                        refine wpAnyH_take (i := 15) (v := .int .i64 i) rfl (by kernel_rfl) (by kernel_rfl) (by kernel_rfl) (fun _ _ _ h => h) (Or.inl ⟨by rfl, by intro w hSw; (try dsimp only at hSw); go_simp⟩) (by assumption) ?_
                        (try simp only [Act.put, List.getElem_toArray, List.getElem_cons_zero, List.getElem_cons_succ, List.setIfInBounds_toArray, List.set_cons_zero, List.set_cons_succ])
                        refine wpAnyH_take (i := 16) (v := .pointer (some ⟨ga, i * 2, none⟩)) rfl (by kernel_rfl) (by kernel_rfl) (by kernel_rfl) (fun _ _ _ h => h) (Or.inl ⟨by rfl, by intro w hSw; (try dsimp only at hSw); go_simp⟩) (by assumption) ?_
                        (try simp only [Act.put, List.getElem_toArray, List.getElem_cons_zero, List.getElem_cons_succ, List.setIfInBounds_toArray, List.set_cons_zero, List.set_cons_succ])
                        refine wpAnyH_take (i := 17) (v := .pointer (some ⟨ga, i * 2 + 1, none⟩)) rfl (by kernel_rfl) (by kernel_rfl) (by kernel_rfl) (fun _ _ _ h => h) (Or.inl ⟨by rfl, by intro w hSw; (try dsimp only at hSw); go_simp⟩) (by assumption) ?_
                        (try simp only [Act.put, List.getElem_toArray, List.getElem_cons_zero, List.getElem_cons_succ, List.setIfInBounds_toArray, List.set_cons_zero, List.set_cons_succ])
                        refine wpAnyH_take (i := 18) (v := .int .i64 ph) rfl (by kernel_rfl) (by kernel_rfl) (by kernel_rfl) (fun _ _ _ h => h) (Or.inl ⟨by rfl, by intro w hSw; (try dsimp only at hSw); go_simp⟩) (by assumption) ?_
                        (try simp only [Act.put, List.getElem_toArray, List.getElem_cons_zero, List.getElem_cons_succ, List.setIfInBounds_toArray, List.set_cons_zero, List.set_cons_succ])
                        refine wpAnyH_take (i := 19) (v := .int .i64 (2 * ph)) rfl (by kernel_rfl) (by kernel_rfl) (by kernel_rfl) (fun _ _ _ h => h) (Or.inl ⟨by rfl, by intro w hSw; (try dsimp only at hSw); go_simp⟩) (by assumption) ?_
                        (try simp only [Act.put, List.getElem_toArray, List.getElem_cons_zero, List.getElem_cons_succ, List.setIfInBounds_toArray, List.set_cons_zero, List.set_cons_succ])
                        refine wpAnyH_take (i := 20) (v := .bool false) rfl (by kernel_rfl) (by kernel_rfl) (by kernel_rfl) (fun _ _ _ h => h) (Or.inl ⟨by rfl, by intro w hSw; (try dsimp only at hSw); go_simp⟩) (by assumption) ?_
                        (try simp only [Act.put, List.getElem_toArray, List.getElem_cons_zero, List.getElem_cons_succ, List.setIfInBounds_toArray, List.set_cons_zero, List.set_cons_succ])
                        refine wpAnyH_take (i := 21) (v := .bool false) rfl (by kernel_rfl) (by kernel_rfl) (by kernel_rfl) (fun _ _ _ h => h) (Or.inl ⟨by rfl, by intro w hSw; (try dsimp only at hSw); go_simp⟩) (by assumption) ?_
                        (try simp only [Act.put, List.getElem_toArray, List.getElem_cons_zero, List.getElem_cons_succ, List.setIfInBounds_toArray, List.set_cons_zero, List.set_cons_succ])
                        refine wpAnyH_done (by kernel_rfl) ?_ _
                        have BR2 := Lib.hid (below_mono BR.out Y0.out)
                        clear JS Y0 hHeld
                        go_wp2
                        go_roundw
                        case rel => exact ⟨i + 1, by omega, by go_num, BR2.out⟩
                        case measure => simp [intOf]; omega
                      · obtain rfl : i = 3 := by omega
                        have ti : decide (((3 : Nat) : Int) < 3) = false := rfl
                        replace KE := Lib.hid (KE.out.keep hbr)
                        replace KS := Lib.hid (KS.out.keep hbr)
                        replace KY := Lib.hid (KY.out.keep hbr)
                        replace BK := Lib.hid (below_mono BK.out hbr)
                        replace BL := Lib.hid (below_mono BL.out hbr)
                        clear hbr KA KC HS OKP OKQ
                        by_cases hx : x = 0
                        · subst hx
                          rw [if_pos rfl] at g3
                          have C3 : Hid (∀ V, Below wk.heap.size wk V → Calls Try.prog 10 #[.agg #[.slice (some ⟨g3', 0, none⟩) 2 2], .int .i64 0, .int .i64 (s.F + s.T - t)] V fun e w' => e = .returned (.tuple #[.agg #[.int .i64 (-u.h0), .int .i64 (-u.l0), .int .i64 (-u.h1), .int .i64 (-u.l1), .int .i64 (-u.h2), .int .i64 (-u.l2)], .int .i64 0]) ∧ Below V.heap.size V w') := fun V h => by
                            have z := eSpeed_any mb (some ⟨g3', 0, none⟩) 2 wk.heap.size 0 (s.F + s.T - t) V (SB.out.below h) g0
                            rw [g3, hml] at z
                            exact z
                          clear g3
                          have cKE0 := KE.out.at_ 0 rfl
                          go_wp2_with fail
                          refine (CS.out _ BK.out).mono ?_
                          rintro e w9 ⟨rfl, hb⟩
                          dsimp only
                          replace KE := Lib.hid (KE.out.keep hb)
                          replace KS := Lib.hid (KS.out.keep hb)
                          replace KY := Lib.hid (KY.out.keep hb)
                          replace BK := Lib.hid (below_mono BK.out hb)
                          replace BL := Lib.hid (below_mono BL.out hb)
                          clear hb cKE0
                          go_upto_region 33 with fail
                          generalize hwx : w9.alloc (.cells #[.int .i64 u.l0, .int .i64 u.h0, .int .i64 u.l1, .int .i64 u.h1, .int .i64 u.l2, .int .i64 u.h2] 38) = KUw at *
                          have hbx : Below w9.heap.size w9 KUw := by rw [← hwx]; exact blw1 _ _
                          have KU : Hid (BlkV KUw w9.heap.size 38 #[.int .i64 u.l0, .int .i64 u.h0, .int .i64 u.l1, .int .i64 u.h1, .int .i64 u.l2, .int .i64 u.h2]) := by rw [← hwx]; exact BlkV.fresh rfl _ _
                          replace KE := Lib.hid (KE.out.keep hbx)
                          replace KS := Lib.hid (KS.out.keep hbx)
                          replace KY := Lib.hid (KY.out.keep hbx)
                          replace BK := Lib.hid (below_mono BK.out hbx)
                          replace BL := Lib.hid (below_mono BL.out hbx)
                          clear hwx hbx
                          generalize w9.heap.size = gu at *
                          have cKY0 := KY.out.at_ 0 rfl
                          have cKS0 := KS.out.at_ 0 rfl
                          have cKS1 := KS.out.at_ 1 rfl
                          go_wp2_with fail
                          refine (C3.out _ BL.out).mono ?_
                          rintro e wa ⟨rfl, hb⟩
                          dsimp only
                          replace KE := Lib.hid (KE.out.keep hb)
                          replace KS := Lib.hid (KS.out.keep hb)
                          replace KY := Lib.hid (KY.out.keep hb)
                          replace KU := Lib.hid (KU.out.keep hb)
                          replace BK := Lib.hid (below_mono BK.out hb)
                          replace BL := Lib.hid (below_mono BL.out hb)
                          clear hb cKY0 cKS0 cKS1
                          go_upto_region 34 with fail
                          generalize hwx : wa.alloc (.cells #[.int .i64 (-u.h0), .int .i64 (-u.l0), .int .i64 (-u.h1), .int .i64 (-u.l1), .int .i64 (-u.h2), .int .i64 (-u.l2)] 38) = KVw at *
                          have hbx : Below wa.heap.size wa KVw := by rw [← hwx]; exact blw1 _ _
                          have KV : Hid (BlkV KVw wa.heap.size 38 #[.int .i64 (-u.h0), .int .i64 (-u.l0), .int .i64 (-u.h1), .int .i64 (-u.l1), .int .i64 (-u.h2), .int .i64 (-u.l2)]) := by rw [← hwx]; exact BlkV.fresh rfl _ _
                          replace KE := Lib.hid (KE.out.keep hbx)
                          replace KS := Lib.hid (KS.out.keep hbx)
                          replace KY := Lib.hid (KY.out.keep hbx)
                          replace KU := Lib.hid (KU.out.keep hbx)
                          replace BK := Lib.hid (below_mono BK.out hbx)
                          replace BL := Lib.hid (below_mono BL.out hbx)
                          clear hwx hbx
                          generalize wa.heap.size = gv at *
                          clear CS C3
                          go_wp2
                          go_loopw [26] (fun s26 wr => ∃ i : Nat, i ≤ 3 ∧ s26 = .int .i64 i ∧ Below KVw.heap.size KVw wr) (fun v _ => 3 - (intOf v).toNat)
                          case atStart => exact ⟨0, by omega, rfl, Below.refl _ _⟩
                          case round =>
                            obtain ⟨i, hi, rfl, hbr⟩ := hrel
                            by_cases hi3 : i < 3
                            · have ti : decide ((i : Int) < 3) = true := decide_eq_true (by omega)
                              have KU2 := Lib.hid (KU.out.keep hbr)
                              have KV2 := Lib.hid (KV.out.keep hbr)
                              have BR := Lib.hid hbr
                              clear hbr
                              obtain ⟨pl, ph, cp0, cp1, cq0, cq1, m3⟩ : ∃ pl ph : Int, wr.cell? ⟨gu, i * 2, none⟩ = some (.int .i64 pl) ∧ wr.cell? ⟨gu, i * 2 + 1, none⟩ = some (.int .i64 ph) ∧ wr.cell? ⟨gv, i * 2, none⟩ = some (.int .i64 (-ph)) ∧ wr.cell? ⟨gv, i * 2 + 1, none⟩ = some (.int .i64 (-pl)) ∧ OkI pl ph := by
                                have hk' : i = 0 ∨ i = 1 ∨ i = 2 := by omega
                                rcases hk' with rfl | rfl | rfl
                                · exact ⟨_, _, KU2.out.at_ 0 rfl, KU2.out.at_ 1 rfl, KV2.out.at_ 0 rfl, KV2.out.at_ 1 rfl, OKU.out.a⟩
                                · exact ⟨_, _, KU2.out.at_ 2 rfl, KU2.out.at_ 3 rfl, KV2.out.at_ 2 rfl, KV2.out.at_ 3 rfl, OKU.out.b⟩
                                · exact ⟨_, _, KU2.out.at_ 4 rfl, KU2.out.at_ 5 rfl, KV2.out.at_ 4 rfl, KV2.out.at_ 5 rfl, OKU.out.c⟩
                              have i3 : (i : Int) < 3 := by omega
                              have i0 : (0 : Int) ≤ (i : Int) := by omega
                              go_wp2_with fail
                              refine (r3neg_ok pl ph m3 _).mono ?_
                              rintro e wb ⟨rfl, hb⟩
                              dsimp only
                              replace cq0 := kept_cell hb cq0
                              replace cq1 := kept_cell hb cq1
                              replace BR := Lib.hid (below_mono BR.out hb)
                              clear hb cp0 cp1 m3
                              go_upto_region 40 with fail
                              generalize hwx : wb.alloc (.cells #[.int .i64 (-ph), .int .i64 (-pl)] 36) = wd at *
                              have KI : Hid (BlkV wd wb.heap.size 36 #[.int .i64 (-ph), .int .i64 (-pl)]) := by rw [← hwx]; exact BlkV.fresh rfl _ _
                              have hbx : Below wb.heap.size wb wd := by rw [← hwx]; exact blw1 _ _
                              replace cq0 := kept_cell hbx cq0
                              replace cq1 := kept_cell hbx cq1
                              replace BR := Lib.hid (below_mono BR.out hbx)
                              clear hwx hbx
                              generalize wb.heap.size = gi at *
                              have cp0 := KI.out.at_ 0 rfl
                              have cp1 := KI.out.at_ 1 rfl
                              have JS : Hid (∀ X, Below wd.heap.size wd X → X.cell? ⟨gi, 0, none⟩ = some (.int .i64 (-ph)) ∧ X.cell? ⟨gi, 1, none⟩ = some (.int .i64 (-pl)) ∧ X.cell? ⟨gv, i * 2, none⟩ = some (.int .i64 (-ph)) ∧ X.cell? ⟨gv, i * 2 + 1, none⟩ = some (.int .i64 (-pl))) := fun X h => ⟨kept_cell h cp0, kept_cell h cp1, kept_cell h cq0, kept_cell h cq1⟩
                              have Y0 : Hid (Below wd.heap.size wd wd.drew) := (Below.refl _ _).drew
                              have hqa := fun W => iv_self (-ph) (-pl) W
                              clear cp0 cp1 cq0 cq1
                              refine wp_region_held_drew (S := fun w' => w'.cell? ⟨gi, 0, none⟩ = some (.int .i64 (-ph)) ∧ w'.cell? ⟨gi, 1, none⟩ = some (.int .i64 (-pl)) ∧ w'.cell? ⟨gv, i * 2, none⟩ = some (.int .i64 (-ph)) ∧ w'.cell? ⟨gv, i * 2 + 1, none⟩ = some (.int .i64 (-pl))) (by kernel_rfl) (JS.out _ Y0.out) (fun hHeld => ?_)
                              refine wpAnyH_take (i := 0) (v := .int .i64 0) rfl (by kernel_rfl) (by kernel_rfl) (by kernel_rfl) (fun _ _ _ h => h) (Or.inl ⟨by rfl, by intro w hSw; (try dsimp only at hSw); go_simp⟩) (by assumption) ?_
                              (try simp only [Act.put, List.getElem_toArray, List.getElem_cons_zero, List.setIfInBounds_toArray, List.set_cons_zero, List.set_cons_succ])
                              refine wpAnyH_take (i := 1) (v := .bool false) rfl (by kernel_rfl) (by kernel_rfl) (by kernel_rfl) (fun _ _ _ h => h) (Or.inl ⟨by rfl, by intro w hSw; (try dsimp only at hSw); go_simp⟩) (by assumption) ?_
                              (try simp only [Act.put, List.getElem_toArray, List.getElem_cons_zero, List.getElem_cons_succ, List.setIfInBounds_toArray, List.set_cons_zero, List.set_cons_succ])
                              refine wpAnyH_take (i := 2) (v := .bool false) rfl (by kernel_rfl) (by kernel_rfl) (by kernel_rfl) (fun _ _ _ h => h) (Or.inl ⟨by rfl, by intro w hSw; (try dsimp only at hSw); go_simp⟩) (by assumption) ?_
                              (try simp only [Act.put, List.getElem_toArray, List.getElem_cons_zero, List.getElem_cons_succ, List.setIfInBounds_toArray, List.set_cons_zero, List.set_cons_succ])
                              refine wpAnyH_take (i := 3) (v := .agg #[.int .i64 (-ph), .int .i64 (-pl)]) rfl (by kernel_rfl) (by kernel_rfl) (by kernel_rfl) (fun _ _ _ h => h) (Or.inl ⟨by rfl, by intro w hSw; (try dsimp only at hSw); go_simp⟩) (by assumption) ?_
                              (try simp only [Act.put, List.getElem_toArray, List.getElem_cons_zero, List.getElem_cons_succ, List.setIfInBounds_toArray, List.set_cons_zero, List.set_cons_succ])
                              refine wpAnyH_take (i := 4) (v := .int .i64 i) rfl (by kernel_rfl) (by kernel_rfl) (by kernel_rfl) (fun _ _ _ h => h) (Or.inl ⟨by rfl, by intro w hSw; (try dsimp only at hSw); go_simp⟩) (by assumption) ?_
                              (try simp only [Act.put, List.getElem_toArray, List.getElem_cons_zero, List.getElem_cons_succ, List.setIfInBounds_toArray, List.set_cons_zero, List.set_cons_succ])
                              refine wpAnyH_take (i := 5) (v := .pointer (some ⟨gv, i * 2, none⟩)) rfl (by kernel_rfl) (by kernel_rfl) (by kernel_rfl) (fun _ _ _ h => h) (Or.inl ⟨by rfl, by intro w hSw; (try dsimp only at hSw); go_simp⟩) (by assumption) ?_
                              (try simp only [Act.put, List.getElem_toArray, List.getElem_cons_zero, List.getElem_cons_succ, List.setIfInBounds_toArray, List.set_cons_zero, List.set_cons_succ])
                              refine wpAnyH_take (i := 6) (v := .agg #[.int .i64 (-ph), .int .i64 (-pl)]) rfl (by kernel_rfl) (by kernel_rfl) (by kernel_rfl) (fun _ _ _ h => h) (Or.inl ⟨by rfl, by intro w hSw; (try dsimp only at hSw); go_simp⟩) (by assumption) ?_
                              (try simp only [Act.put, List.getElem_toArray, List.getElem_cons_zero, List.getElem_cons_succ, List.setIfInBounds_toArray, List.set_cons_zero, List.set_cons_succ])
                              refine wpAnyH_take (i := 7) (v := .bool false) rfl (by kernel_rfl) (by kernel_rfl) (by kernel_rfl) (fun _ _ _ h => h) (Or.inl ⟨by rfl, by intro w hSw; (try dsimp only at hSw); go_simp⟩) (by assumption) ?_
                              (try simp only [Act.put, List.getElem_toArray, List.getElem_cons_zero, List.getElem_cons_succ, List.setIfInBounds_toArray, List.set_cons_zero, List.set_cons_succ])
                              refine wpAnyH_take (i := 8) (v := .bool false) rfl (by kernel_rfl) (by kernel_rfl) (by kernel_rfl) (fun _ _ _ h => h) (Or.inl ⟨by rfl, by intro w hSw; (try dsimp only at hSw); go_simp⟩) (by assumption) ?_
                              (try simp only [Act.put, List.getElem_toArray, List.getElem_cons_zero, List.getElem_cons_succ, List.setIfInBounds_toArray, List.set_cons_zero, List.set_cons_succ])
                              refine wpAnyH_done (by kernel_rfl) ?_ _
                              have BR2 := Lib.hid (below_mono BR.out Y0.out)
                              clear JS Y0 hHeld hqa
                              go_wp2
                              go_roundw
                              case rel => exact ⟨i + 1, by omega, by go_num, BR2.out⟩
                              case measure => simp [intOf]; omega
                            · obtain rfl : i = 3 := by omega
                              have ti : decide (((3 : Nat) : Int) < 3) = false := rfl
                              have BF := below_mono BK.out hbr
                              go_wp2
                              go_ret
                              exact ⟨rfl, BF⟩
                        · obtain rfl : x = 16 := by have := XE.out; omega
                          rw [if_neg hx] at g3
                          have C3 : Hid (∀ V, Below wk.heap.size wk V → Calls Try.prog 10 #[.agg #[.slice (some ⟨g3', 0, none⟩) 2 2], .int .i64 0, .int .i64 (s.F + s.T - t)] V fun e w' => e = .returned (.tuple #[.agg #[.int .i64 0, .int .i64 0, .int .i64 0, .int .i64 0, .int .i64 0, .int .i64 0], .int .i64 16]) ∧ Below V.heap.size V w') := fun V h => by
                            have z := eSpeed_any mb (some ⟨g3', 0, none⟩) 2 wk.heap.size 0 (s.F + s.T - t) V (SB.out.below h) g0
                            rw [g3, hml] at z
                            exact z
                          clear g3 hx
                          have cKE0 := KE.out.at_ 0 rfl
                          go_wp2_with fail
                          refine (CS.out _ BK.out).mono ?_
                          rintro e w9 ⟨rfl, hb⟩
                          dsimp only
                          replace KE := Lib.hid (KE.out.keep hb)
                          replace KS := Lib.hid (KS.out.keep hb)
                          replace KY := Lib.hid (KY.out.keep hb)
                          replace BK := Lib.hid (below_mono BK.out hb)
                          replace BL := Lib.hid (below_mono BL.out hb)
                          clear hb cKE0
                          go_upto_region 33 with fail
                          generalize hwx : w9.alloc (.cells #[.int .i64 u.l0, .int .i64 u.h0, .int .i64 u.l1, .int .i64 u.h1, .int .i64 u.l2, .int .i64 u.h2] 38) = KUw at *
                          have hbx : Below w9.heap.size w9 KUw := by rw [← hwx]; exact blw1 _ _
                          have KU : Hid (BlkV KUw w9.heap.size 38 #[.int .i64 u.l0, .int .i64 u.h0, .int .i64 u.l1, .int .i64 u.h1, .int .i64 u.l2, .int .i64 u.h2]) := by rw [← hwx]; exact BlkV.fresh rfl _ _
                          replace KE := Lib.hid (KE.out.keep hbx)
                          replace KS := Lib.hid (KS.out.keep hbx)
                          replace KY := Lib.hid (KY.out.keep hbx)
                          replace BK := Lib.hid (below_mono BK.out hbx)
                          replace BL := Lib.hid (below_mono BL.out hbx)
                          clear hwx hbx
                          generalize w9.heap.size = gu at *
                          have cKY0 := KY.out.at_ 0 rfl
                          have cKS0 := KS.out.at_ 0 rfl
                          have cKS1 := KS.out.at_ 1 rfl
                          go_wp2_with fail
                          refine (C3.out _ BL.out).mono ?_
                          rintro e wa ⟨rfl, hb⟩
                          dsimp only
                          replace KE := Lib.hid (KE.out.keep hb)
                          replace KS := Lib.hid (KS.out.keep hb)
                          replace KY := Lib.hid (KY.out.keep hb)
                          replace KU := Lib.hid (KU.out.keep hb)
                          replace BK := Lib.hid (below_mono BK.out hb)
                          replace BL := Lib.hid (below_mono BL.out hb)
                          clear hb cKY0 cKS0 cKS1
                          have BF := below_mono BK.out (blw1 _ (.cells #[.int .i64 0, .int .i64 0, .int .i64 0, .int .i64 0, .int .i64 0, .int .i64 0] 38))
                          go_wp2
                          go_ret
                          exact ⟨rfl, BF⟩
    · generalize chkE bs = x at *
      have t0 : (x != 0) = true := bne_iff_ne.2 hc
      clear hc HG
      go_wp2
      go_ret
      exact ⟨rfl, B3.out⟩

end Go.Proofs.Ytghallnooijfhaa

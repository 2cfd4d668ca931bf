/- Walks: the reference's compare. -/
import Derived.Test.YthlfidbhldbedaaW1
import Derived.Test.YthlfidbhldbedaaMem
namespace Go.Proofs.Ythlfidbhldbedaa
open Go.RowKit
set_option maxHeartbeats 1000000 in
theorem rcompare_any (A1 A2 : Option Addr) (l1 l2 : List Nat) (c1 c2 : Nat) (w : World) (hs1 : Sl w A1 l1 c1) (hs2 : Sl w A2 l2 c2) :
    Calls Try.prog 70 #[.slice A1 l1.length c1, .slice A2 l2.length c2] w fun e w' => e = .returned (.int .i64 (cmpL l1 l2)) ∧ ∃ n, w' = w.drewN n := by
  have hlen := hs1.len
  have Hs1 := Lib.hid hs1
  have Hs2 := Lib.hid hs2
  clear hs1 hs2
  by_cases hl : l1.length = l2.length
  · have Hl := Lib.hid hl
    have hr : cmpL l1 l2 = cmpTop l1 l2 l1.length := by rw [cmpL, if_pos hl]
    rw [← hl, hr]
    clear hl hr
    generalize hz : cmpTop l1 l2 l1.length = z
    have Hz := Lib.hid hz
    clear hz
    go_enter Try.func70, Try.ntmps70
    go_wp2
    go_loopw [5] (fun t wr => ∃ m : Nat, m ≤ l1.length ∧ t = .int .i64 ((m : Int) - 1) ∧ cmpTop l1 l2 m = z ∧ ∃ n, wr = w.drewN n) (fun t _ => (intOf t + 1).toNat)
    case atStart => exact ⟨l1.length, Nat.le_refl _, rfl, Hz.out, 0, rfl⟩
    case round =>
      obtain ⟨m, hm, rfl, hc, n, rfl⟩ := hrel
      have Hc := Lib.hid hc
      clear hc
      cases m with
      | zero =>
        go_wp2
        go_ret
        exact ⟨by rw [← Hc.out]; rfl, n, rfl⟩
      | succ m =>
        obtain ⟨b1, o1, rfl, hx1⟩ := Hs1.out.rd.at_ (k := m) (by omega)
        obtain ⟨b2, o2, rfl, hx2⟩ := Hs2.out.rd.at_ (k := m) (by rw [← Hl.out]; omega)
        by_cases h1 : l1[m]?.getD 0 < l2[m]?.getD 0
        · have hr : z = -1 := by rw [← Hc.out, cmpTop, if_pos h1]
          have Hr := Lib.hid hr
          clear hr
          go_wp2
          go_quiet (fail)
          go_wp2
          go_ret
          exact ⟨by rw [Hr.out]; rfl, _, by rw [World.drewN_drewN]⟩
        · by_cases h2 : l2[m]?.getD 0 < l1[m]?.getD 0
          · have hr : z = 1 := by rw [← Hc.out, cmpTop, if_neg h1, if_pos h2]
            have Hr := Lib.hid hr
            clear hr
            go_wp2
            go_quiet (fail)
            go_wp2
            go_quiet (fail)
            go_wp2
            go_ret
            exact ⟨by rw [Hr.out]; rfl, _, by rw [World.drewN_drewN, World.drewN_drewN]⟩
          · have hr : cmpTop l1 l2 m = z := by rw [← Hc.out, cmpTop, if_neg h1, if_neg h2]
            have Hr := Lib.hid hr
            clear hr
            go_wp2
            go_quiet (fail)
            go_wp2
            go_quiet (fail)
            go_wp2
            go_roundw
            case rel => exact ⟨m, by omega, by go_num, Hr.out, _, rfl⟩
            case measure => simp [intOf]
  · have h1 : ((l1.length : Int) != l2.length) = true := by rw [bne_iff_ne]; omega
    by_cases hlt : l1.length < l2.length
    · have hr : cmpL l1 l2 = -1 := by rw [cmpL, if_neg hl, if_pos hlt]
      rw [hr]
      clear hr hl
      go_enter Try.func70, Try.ntmps70
      go_wp2
      go_ret
      exact ⟨rfl, 0, rfl⟩
    · have hr : cmpL l1 l2 = 1 := by rw [cmpL, if_neg hl, if_neg hlt]
      rw [hr]
      clear hr hl
      go_enter Try.func70, Try.ntmps70
      go_wp2
      go_ret
      exact ⟨rfl, 0, rfl⟩

end Go.Proofs.Ythlfidbhldbedaa

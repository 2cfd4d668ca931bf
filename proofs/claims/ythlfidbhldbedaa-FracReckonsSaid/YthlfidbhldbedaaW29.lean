/- Walks: wide.divide. -/
import Derived.Test.YthlfidbhldbedaaW28
import Derived.Test.YthlfidbhldbedaaW21
import Derived.Test.YthlfidbhldbedaaW23
import Derived.Test.YthlfidbhldbedaaW9
import Derived.Test.YthlfidbhldbedaaMath
import Derived.Test.YthlfidbhldbedaaShelf
import Derived.Deep.CutRange
namespace Go.Proofs.Ythlfidbhldbedaa
open Go.RowKit
attribute [local go_sem ↓] Go.wp_at_zero Go.wp_at_succ
theorem lz_fit {x : Nat} (h0 : 0 < x) (hx : x < 4294967296) : ∃ s, s < 32 ∧ bitLenN x + s = 32 ∧ x * 2 ^ s < 4294967296 := by
  have h1 : bitLenN x ≤ 32 := bitLenN_le hx
  have h2 : 0 < bitLenN x := by unfold bitLenN; rw [if_neg (by omega)]; omega
  have h3 : x < 2 ^ bitLenN x := by unfold bitLenN; rw [if_neg (by omega)]; exact Nat.lt_log2_self
  refine ⟨32 - bitLenN x, by omega, by omega, ?_⟩
  have h4 : x * 2 ^ (32 - bitLenN x) < 2 ^ bitLenN x * 2 ^ (32 - bitLenN x) := Nat.mul_lt_mul_of_pos_right h3 (Nat.pow_pos (by omega))
  rw [← Nat.pow_add, show bitLenN x + (32 - bitLenN x) = 32 by omega] at h4
  exact h4

set_option maxRecDepth 100000 in
set_option maxHeartbeats 4000000 in
theorem divide_small (A1 A2 : Option Addr) (l1 l2 : List Nat) (c1 c2 : Nat) (w : World) (hs1 : Sl w A1 l1 c1) (hs2 : Sl w A2 l2 c2) (k1 : Canon l1) (k2 : Canon l2) (hv : val l1 < val l2) :
    Calls Try.prog 67 #[.slice A1 l1.length c1, .slice A2 l2.length c2] w (LRes2 (limbs (val l1 / val l2)) (limbs (val l1 % val l2)) w) := by
  have Hcmp := Lib.hid (cmpL_lt k1 k2 hv)
  rw [Nat.div_eq_of_lt hv, Nat.mod_eq_of_lt hv, canon_eq k1, limbs_zero]
  have Hs1 := Lib.hid hs1
  have Hs2 := Lib.hid hs2
  clear hs1 hs2 k1 k2 hv
  go_enter Try.func67, Try.ntmps67
  go_wp2_with fail
  refine (compare_any _ _ _ _ _ _ _ Hs1.out Hs2.out).mono ?_
  rintro e w1 ⟨rfl, hb⟩
  rw [Hcmp.out]
  have Hb := Lib.hid hb
  clear hb
  go_wp2_with fail
  refine (clone_any _ _ _ _ (Hs1.out.below Hb.out)).mono ?_
  rintro e w2 ⟨A', c', rfl, hown, hb2⟩
  have Hsl := Lib.hid (hown.sl Hs1.out.lim Hs1.out.len)
  have Hb2 := Lib.hid (below_mono Hb.out hb2)
  clear hown hb2
  go_wp2
  go_ret2
  exact ⟨none, 0, A', c', rfl, Sl.nil _ _ _, Hsl.out, Hb2.out⟩

set_option maxRecDepth 100000 in
set_option maxHeartbeats 4000000 in
theorem divide_one (A1 A2 : Option Addr) (l1 : List Nat) (d : Nat) (c1 c2 : Nat) (w : World) (hs1 : Sl w A1 l1 c1) (hs2 : Sl w A2 [d] c2) (k1 : Canon l1) (k2 : Canon [d]) (hv : val [d] ≤ val l1) (hlen : l1.length ≤ 100000) :
    Calls Try.prog 67 #[.slice A1 l1.length c1, .slice A2 1 c2] w (LRes2 (limbs (val l1 / val [d])) (limbs (val l1 % val [d])) w) := by
  have hc0 := cmpL_ge k1 k2 hv
  have hd : 0 < d := by have := k2.2 (by simp); simp at this; omega
  have hd2 : d < 4294967296 := hs2.lim d (by simp)
  have hvd : val [d] = d := by simp [val]
  rw [hvd]
  have Hs1 := Lib.hid hs1
  have Hs2 := Lib.hid hs2
  clear hs1 hs2 k1 k2 hv hvd
  have hcmp := fun W h1 h2 => compare_any A1 A2 l1 [d] c1 c2 W h1 h2
  simp only [List.length_cons, List.length_nil, Nat.zero_add] at hcmp
  generalize cmpL l1 [d] = z at *
  have Hc := Lib.hid hcmp
  clear hcmp
  go_enter Try.func67, Try.ntmps67
  go_wp2_with fail
  refine (Hc.out w Hs1.out Hs2.out).mono ?_
  rintro e w1 ⟨rfl, hb⟩
  have Hb := Lib.hid hb
  clear hb
  obtain ⟨b2, o2, rfl, hx⟩ := (Hs2.out.below Hb.out).rd.at_ (k := 0) (by simp)
  simp only [Nat.add_zero, List.getElem?_cons_zero, Option.getD_some] at hx
  go_wp2_with fail
  refine (short_any _ _ _ _ _ (Hs1.out.below Hb.out) (by omega) hd hd2).mono ?_
  rintro e w2 ⟨A', c', rfl, hsl, hb2⟩
  have Hsl := Lib.hid hsl
  have Hb2 := Lib.hid (below_mono Hb.out hb2)
  have Hr : Hid (val l1 % d < 4294967296) := by have := Nat.mod_lt (val l1) hd; unfold Hid; omega
  have Hv1 : Hid (val [val l1 % d] = val l1 % d) := by unfold Hid; simp [val]
  clear hsl hb2 hx
  generalize val l1 % d = r at *
  generalize val l1 / d = q at *
  have hr := Hr.out
  go_wp2_with fail
  have htr := trim_any (some ⟨w2.heap.size, 0, none⟩) [r] 1 (w2.alloc (.cells #[.int .u32 (r : Nat)] 80)) ⟨Rd.one _ _ _, lim_one hr, Nat.le_refl _, by simp⟩
  have hst := (Sl.trim (w := w2.alloc (.cells #[.int .u32 (r : Nat)] 80)) (A := some ⟨w2.heap.size, 0, none⟩) (l := [r]) (c := 1) ⟨Rd.one _ _ _, lim_one hr, Nat.le_refl _, by simp⟩)
  rw [Hv1.out] at htr hst
  have Hst := Lib.hid hst
  refine htr.mono ?_
  rintro e w3 ⟨rfl, rfl⟩
  clear htr hst
  go_wp2
  go_ret2
  exact ⟨A', c', _, 1, rfl, Hsl.out.alloc _, Hst.out, Hb2.out.alloc Hb2.out.size _⟩

end Go.Proofs.Ythlfidbhldbedaa

/- Walks: the reference's over, the short ways. -/
import Derived.Test.YthlfidbhldbedaaW25
import Derived.Test.YthlfidbhldbedaaRCmp
import Derived.Test.YthlfidbhldbedaaMath
namespace Go.Proofs.Ythlfidbhldbedaa
open Go.RowKit
set_option maxRecDepth 100000 in
set_option maxHeartbeats 4000000 in
theorem over_small (A1 A2 : Option Addr) (l1 l2 : List Nat) (c1 c2 : Nat) (w : World) (hs1 : Sl w A1 l1 c1) (hs2 : Sl w A2 l2 c2) (k1 : Canon l1) (k2 : Canon l2) (hv : val l1 < val l2) :
    Calls Try.prog 69 #[.slice A1 l1.length c1, .slice A2 l2.length c2] w (LRes2 (limbs (val l1 / val l2)) (limbs (val l1 % val l2)) w) := by
  have Hcmp := Lib.hid (cmpL_lt k1 k2 hv)
  rw [Nat.div_eq_of_lt hv, Nat.mod_eq_of_lt hv, canon_eq k1, limbs_zero]
  have Hk := Lib.hid (canon_eq k1)
  have Hs1 := Lib.hid hs1
  have Hs2 := Lib.hid hs2
  clear hs1 hs2 k1 k2 hv
  go_enter Try.func69, Try.ntmps69
  go_wp2_with fail
  refine (rcompare_any _ _ _ _ _ _ _ Hs1.out Hs2.out).mono ?_
  rintro e w1 ⟨rfl, nd, rfl⟩
  have hb : Below w.heap.size w (w.drewN nd) := below_drewN (Below.refl _ _) _
  generalize w.drewN nd = w1 at *
  rw [Hcmp.out]
  have Hb := Lib.hid hb
  clear hb
  go_wp2_with fail
  refine (rtrim_any _ _ _ _ (Hs1.out.below Hb.out)).mono ?_
  rintro e w2 ⟨A', c', rfl, hsl, hb2⟩
  rw [Hk.out] at hsl
  rw [Hk.out]
  have Hsl := Lib.hid hsl
  have Hb2 := Lib.hid (below_mono Hb.out hb2)
  clear hsl hb2
  go_wp2
  go_ret2
  exact ⟨none, 0, A', c', rfl, Sl.nil _ _ _, Hsl.out, Hb2.out⟩

set_option maxRecDepth 100000 in
set_option maxHeartbeats 4000000 in
theorem over_one (A1 A2 : Option Addr) (l1 : List Nat) (d : Nat) (c1 c2 : Nat) (w : World) (hs1 : Sl w A1 l1 c1) (hs2 : Sl w A2 [d] c2) (k1 : Canon l1) (k2 : Canon [d]) (hv : val [d] ≤ val l1) (hlen : l1.length ≤ 100000) :
    Calls Try.prog 69 #[.slice A1 l1.length c1, .slice A2 1 c2] w (LRes2 (limbs (val l1 / val [d])) (limbs (val l1 % val [d])) w) := by
  have hc0 := cmpL_ge k1 k2 hv
  have hd : 0 < d := by have := k2.2 (by simp); simp at this; omega
  have hd2 : d < 4294967296 := hs2.lim d (by simp)
  have hvd : val [d] = d := by simp [val]
  rw [hvd]
  have Hs1 := Lib.hid hs1
  have Hs2 := Lib.hid hs2
  clear hs1 hs2 k1 k2 hv hvd
  have hcmp := fun W h1 h2 => rcompare_any A1 A2 l1 [d] c1 c2 W h1 h2
  simp only [List.length_cons, List.length_nil, Nat.zero_add] at hcmp
  generalize cmpL l1 [d] = z at *
  have Hc := Lib.hid hcmp
  clear hcmp
  go_enter Try.func69, Try.ntmps69
  go_wp2_with fail
  refine (Hc.out w Hs1.out Hs2.out).mono ?_
  rintro e w1 ⟨rfl, nd, rfl⟩
  have Hb : Hid (Below w.heap.size w (w.drewN nd)) := below_drewN (Below.refl _ _) _
  generalize w.drewN nd = w1 at *
  obtain ⟨b2, o2, rfl, hx⟩ := (Hs2.out.below Hb.out).rd.at_ (k := 0) (by simp)
  simp only [Nat.add_zero, List.getElem?_cons_zero, Option.getD_some] at hx
  go_wp2_with fail
  refine (rshort_any _ _ _ _ _ (Hs1.out.below Hb.out) (by omega) hd hd2).mono ?_
  rintro e w2 ⟨A', c', A2', c2', rfl, hsl, hsl2, hb2⟩
  have Hsl := Lib.hid hsl
  have Hsl2 := Lib.hid hsl2
  have Hb2 := Lib.hid (below_mono Hb.out hb2)
  clear hsl hsl2 hb2 hx
  go_wp2
  go_ret2
  exact ⟨A', c', A2', c2', rfl, Hsl.out, Hsl2.out, Hb2.out⟩

end Go.Proofs.Ythlfidbhldbedaa

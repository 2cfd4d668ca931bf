import Derived.Test.YtghallnooijfhaaMg3
import Derived.Test.YtghallnooijfhaaW21
import Derived.Test.YtghallnooijfhaaMg2
import Derived.Test.YtghallnooijfhaaW2
import Derived.Test.YtghallnooijfhaaMath
import Derived.Test.YtghallnooijfhaaShelf
import Derived.Deep.CutRange
import Derived.Deep.RegionHeld3
import Derived.Test.YtghallnooijfhaaW19
import Derived.Test.YtghallnooijfhaaMem
namespace Go.Proofs.Ytghallnooijfhaa
open Go.RowKit
attribute [local go_sem ↓] Go.wp_at_zero Go.wp_at_succ
theorem lz_fit {x : Nat} (h0 : 0 < x) (hx : x < 4294967296) : ∃ s, s < 32 ∧ bitLenN x + s = 32 ∧ x * 2 ^ s < 4294967296 := by
  have h1 : bitLenN x ≤ 32 := bitLenN_le hx
  have h2 : 0 < bitLenN x := by unfold bitLenN; rw [if_neg (by omega)]; omega
  have h3 : x < 2 ^ bitLenN x := by unfold bitLenN; rw [if_neg (by omega)]; exact Nat.lt_log2_self
  refine ⟨32 - bitLenN x, by omega, by omega, ?_⟩
  have h4 : x * 2 ^ (32 - bitLenN x) < 2 ^ bitLenN x * 2 ^ (32 - bitLenN x) := Nat.mul_lt_mul_of_pos_right h3 (Nat.pow_pos (by omega))
  rw [← Nat.pow_add, show bitLenN x + (32 - bitLenN x) = 32 by omega] at h4
  exact h4

set_option maxRecDepth 100000 in
set_option maxHeartbeats 4000000 in
theorem divide_small (A1 A2 : Option Addr) (l1 l2 : List Nat) (c1 c2 : Nat) (w : World) (hs1 : Sl w A1 l1 c1) (hs2 : Sl w A2 l2 c2) (k1 : Canon l1) (k2 : Canon l2) (hv : val l1 < val l2) :
    Calls Try.prog 75 #[.slice A1 l1.length c1, .slice A2 l2.length c2] w (LRes2 (limbs (val l1 / val l2)) (limbs (val l1 % val l2)) w) := by
  have Hcmp := Lib.hid (cmpL_lt k1 k2 hv)
  rw [Nat.div_eq_of_lt hv, Nat.mod_eq_of_lt hv, canon_eq k1, limbs_zero]
  have Hs1 := Lib.hid hs1
  have Hs2 := Lib.hid hs2
  clear hs1 hs2 k1 k2 hv
  go_enter Try.func75, Try.ntmps75
  go_wp2_with fail
  refine (compare_any _ _ _ _ _ _ _ Hs1.out Hs2.out).mono ?_
  rintro e w1 ⟨rfl, hb⟩
  rw [Hcmp.out]
  have Hb := Lib.hid hb
  clear hb
  go_wp2_with fail
  refine (clone_any _ _ _ _ (Hs1.out.below Hb.out)).mono ?_
  rintro e w2 ⟨A', c', rfl, hown, hb2⟩
  have Hsl := Lib.hid (hown.sl Hs1.out.lim Hs1.out.len)
  have Hb2 := Lib.hid (below_mono Hb.out hb2)
  clear hown hb2
  go_wp2
  go_ret2
  exact ⟨none, 0, A', c', rfl, Sl.nil _ _ _, Hsl.out, Hb2.out⟩

set_option maxRecDepth 100000 in
set_option maxHeartbeats 4000000 in
theorem divide_one (A1 A2 : Option Addr) (l1 : List Nat) (d : Nat) (c1 c2 : Nat) (w : World) (hs1 : Sl w A1 l1 c1) (hs2 : Sl w A2 [d] c2) (k1 : Canon l1) (k2 : Canon [d]) (hv : val [d] ≤ val l1) (hlen : l1.length ≤ 100000) :
    Calls Try.prog 75 #[.slice A1 l1.length c1, .slice A2 1 c2] w (LRes2 (limbs (val l1 / val [d])) (limbs (val l1 % val [d])) w) := by
  have hc0 := cmpL_ge k1 k2 hv
  have hd : 0 < d := by have := k2.2 (by simp); simp at this; omega
  have hd2 : d < 4294967296 := hs2.lim d (by simp)
  have hvd : val [d] = d := by simp [val]
  rw [hvd]
  have Hs1 := Lib.hid hs1
  have Hs2 := Lib.hid hs2
  clear hs1 hs2 k1 k2 hv hvd
  have hcmp := fun W h1 h2 => compare_any A1 A2 l1 [d] c1 c2 W h1 h2
  simp only [List.length_cons, List.length_nil, Nat.zero_add] at hcmp
  generalize cmpL l1 [d] = z at *
  have Hc := Lib.hid hcmp
  clear hcmp
  go_enter Try.func75, Try.ntmps75
  go_wp2_with fail
  refine (Hc.out w Hs1.out Hs2.out).mono ?_
  rintro e w1 ⟨rfl, hb⟩
  have Hb := Lib.hid hb
  clear hb
  obtain ⟨b2, o2, rfl, hx⟩ := (Hs2.out.below Hb.out).rd.at_ (k := 0) (by simp)
  simp only [Nat.add_zero, List.getElem?_cons_zero, Option.getD_some] at hx
  go_wp2_with fail
  refine (short_any _ _ _ _ _ (Hs1.out.below Hb.out) (by omega) hd hd2).mono ?_
  rintro e w2 ⟨A', c', rfl, hsl, hb2⟩
  have Hsl := Lib.hid hsl
  have Hb2 := Lib.hid (below_mono Hb.out hb2)
  have Hr : Hid (val l1 % d < 4294967296) := by have := Nat.mod_lt (val l1) hd; unfold Hid; omega
  have Hv1 : Hid (val [val l1 % d] = val l1 % d) := by unfold Hid; simp [val]
  clear hsl hb2 hx
  generalize val l1 % d = r at *
  generalize val l1 / d = q at *
  have hr := Hr.out
  go_wp2_with fail
  have htr := trim_any (some ⟨w2.heap.size, 0, none⟩) [r] 1 (w2.alloc (.cells #[.int .u32 (r : Nat)] 100)) ⟨Rd.one _ _ _, lim_one hr, Nat.le_refl _, by simp⟩
  have hst := (Sl.trim (w := w2.alloc (.cells #[.int .u32 (r : Nat)] 100)) (A := some ⟨w2.heap.size, 0, none⟩) (l := [r]) (c := 1) ⟨Rd.one _ _ _, lim_one hr, Nat.le_refl _, by simp⟩)
  rw [Hv1.out] at htr hst
  have Hst := Lib.hid hst
  refine htr.mono ?_
  rintro e w3 ⟨rfl, rfl⟩
  clear htr hst
  go_wp2
  go_ret2
  exact ⟨A', c', _, 1, rfl, Hsl.out.alloc _, Hst.out, Hb2.out.alloc Hb2.out.size _⟩

end Go.Proofs.Ytghallnooijfhaa
/- Walks: wide.divide, the long way. -/
namespace Go.Proofs.Ytghallnooijfhaa
open Go.RowKit
attribute [local go_sem ↓] Go.wp_at_zero Go.wp_at_succ
/-- Limbs of a value in a new block. -/
def GRes (n m : Nat) (w : World) : Ending → World → Prop := fun e w' =>
  ∃ g c r, e = .returned (.slice (some ⟨g, 0, none⟩) m c) ∧ w.heap.size ≤ g ∧ Bx w' g r ∧ Lim r ∧ val r = n ∧ r.length = m ∧ m ≤ c ∧ Below w.heap.size w w'

theorem gres_of {P : Program} {f : FuncId} {args : Array Value} {n m : Nat} {w : World} (hm : 0 < m) (h : Calls P f args w (ORes n m w)) : Calls P f args w (GRes n m w) := by
  refine h.mono ?_
  rintro e w' ⟨A, c, r, rfl, hown, hl, hv, hlen, hb⟩
  have hle := hown.le
  obtain ⟨g, rfl, hg, hbx⟩ := hown.bx (by omega)
  exact ⟨g, c, r, by rw [hlen], hg, hbx, hl, hv, hlen, by omega, hb⟩

theorem Bx.slTake {w : World} {g : Nat} {l : List Nat} (h : Bx w g l) (hl : Lim l) {n c : Nat} (hn : n ≤ l.length) (hc : n ≤ c) (h63 : n ≤ 35184372088832) : Sl w (some ⟨g, 0, none⟩) (l.take n) c := by
  have hln : (l.take n).length = n := by rw [List.length_take]; omega
  exact ⟨h.rd0.take n, lim_take hl _, by omega, by omega⟩

set_option maxRecDepth 100000 in
set_option maxHeartbeats 4000000 in
theorem divide_long (A1 A2 : Option Addr) (l1 l2 : List Nat) (c1 c2 : Nat) (w : World) (hs1 : Sl w A1 l1 c1) (hs2 : Sl w A2 l2 c2) (k1 : Canon l1) (k2 : Canon l2) (hv : val l2 ≤ val l1) (hn2 : 2 ≤ l2.length) (hlen : l1.length ≤ 100000) :
    Calls Try.prog 75 #[.slice A1 l1.length c1, .slice A2 l2.length c2] w (LRes2 (limbs (val l1 / val l2)) (limbs (val l1 % val l2)) w) := by
  have hc0 := cmpL_ge k1 k2 hv
  have hll := canon_len_le k2 k1 hv
  have htop0 : 0 < l2[l2.length - 1]?.getD 0 := by have := k2.2 (by omega); omega
  have htop1 := getD_lim k2.1 (l2.length - 1)
  obtain ⟨s, hs32, hbl, hts⟩ := lz_fit htop0 htop1
  have Hnorm := Lib.hid (norm_lt k2.1 hs32 (by omega) hts)
  have Hct := Lib.hid (canon_top k2 (by omega))
  have Hlz : Hid ((32 : Int) - (Lib.bitLen ((l2[l2.length - 1]?.getD 0 : Nat) : Int).toNat : Int) = (s : Int)) := by
    unfold Hid
    rw [Int.toNat_natCast, bitLen_eq htop1]; omega
  have Hstart : Hid (∀ u m, val u = val l1 * 2 ^ s → m + l2.length = l1.length + 1 → val (u.drop m) < val l2 * 2 ^ s) := fun u m hu hm => div_start k1.1 k2 (by omega) hu hm
  have Hdone : Hid (∀ q r, q * (val l2 * 2 ^ s) + r = val l1 * 2 ^ s → r < val l2 * 2 ^ s → q = val l1 / val l2 ∧ r / 2 ^ s = val l1 % val l2) := fun q r h1 h2 => div_done (Nat.pow_pos (by omega)) (canon_val_pos k2 (by omega)) h1 h2
  have Hs1 := Lib.hid hs1
  have Hs2 := Lib.hid hs2
  have hV := fun W (hW : Below w.heap.size w W) => gres_of (by omega) (left_any A2 l2 c2 s W (hs2.below hW) (by omega) (by omega))
  have hU := fun W (hW : Below w.heap.size w W) => gres_of (by omega) (left_any A1 l1 c1 s W (hs1.below hW) (by omega) (by omega))
  rw [show s / 32 = 0 by omega, Nat.zero_add] at hV hU
  obtain ⟨i0, hi, hz0, hz1, hz2⟩ := info_parts info32
  obtain ⟨M, hM⟩ : ∃ M, M = l1.length + 1 := ⟨_, rfl⟩
  obtain ⟨N1, hN1⟩ : ∃ N1, N1 = l2.length + 1 := ⟨_, rfl⟩
  rw [← hM] at hU
  rw [← hN1] at hV
  obtain ⟨L, hL⟩ : ∃ L, L = M - l2.length := ⟨_, rfl⟩
  have hL1 : (M : Int) - (l2.length : Int) = (L : Int) := by omega
  have hmk := fun W => run_make32 (P := Try.prog) 55 100 i0 Try.underlying55 hi hz0 hz1 hz2 (L : Int) (L : Int) L L rfl rfl (Nat.le_refl _) (by omega) W
  have hML : M = L + l2.length := by omega
  have hM3 : M ≤ 100001 := by omega
  have HM : Hid (M = l1.length + 1) := hM
  have HML : Hid (M = L + l2.length) := hML
  have hM4 : l2.length + 1 ≤ M := by omega
  have hM5 : L ≤ M := by omega
  have HN1 : Hid (N1 = l2.length + 1) := hN1
  have hn1N : l2.length ≤ N1 := by omega
  generalize hgx : l2[l2.length - 1]?.getD 0 = x at *
  have Hx := Lib.hid hgx
  generalize cmpL l1 l2 = z at hc0
  have Hc : Hid (∀ W, Sl W A1 l1 c1 → Sl W A2 l2 c2 → Calls Try.prog 85 #[.slice A1 l1.length c1, .slice A2 l2.length c2] W fun e w' => e = .returned (.int .i64 (cmpL l1 l2)) ∧ Below W.heap.size W w') := fun W h1 h2 => compare_any _ _ _ _ _ _ W h1 h2
  have hz : 0 ≤ cmpL l1 l2 := cmpL_ge k1 k2 hv
  generalize cmpL l1 l2 = z at *
  have hne1 : ((l2.length : Int) == 1) = false := by rw [beq_eq_false_iff_ne]; omega
  clear hs1 hs2 k1 k2 hv hL hML hM hN1 hi hz0 hz1 hz2 hgx hts hbl
  go_enter Try.func75, Try.ntmps75
  go_wp2_with fail
  refine (Hc.out w Hs1.out Hs2.out).mono ?_
  rintro e w1 ⟨rfl, hb⟩
  have Hb := Lib.hid hb
  clear hb
  obtain ⟨b2, o2, rfl, hx⟩ := (Hs2.out.below Hb.out).rd.at_ (k := l2.length - 1) (by omega)
  rw [Hx.out] at hx
  go_wp2_with fail
  refine (Try.bits_LeadingZeros32 (x : Int) w1 (by omega) (by omega)).mono ?_
  rw [Hlz.out]
  rintro e w2 ⟨rfl, rfl⟩
  clear Hlz hx
  go_wp2
  have HV := Lib.hid hV
  have HU := Lib.hid hU
  have HB0 := Lib.hid Hb.out.drew
  clear hV hU
  go_region_held3 (fun _ => True) (exact trivial)
    (first
      | (go_at_call 89; refine (HV.out _ HB0.out).mono ?_; clear HV; rintro e wV ⟨gV, cV, rV, rfl, hgV, hbxV, hlV, hvV, hlenV, hcV, hbV⟩; have HbxV := Lib.hid hbxV; have HlV := Lib.hid hlV; have HvV := Lib.hid hvV; have HlenV := Lib.hid hlenV; have HbV := Lib.hid hbV; have HB1 := Lib.hid (below_mono HB0.out hbV); have hcV2 : l2.length ≤ cV := Nat.le_trans hn1N hcV; clear hbxV hlV hvV hlenV hbV)
      | (go_at_call 89; refine (HU.out _ HB1.out).mono ?_; clear HU; rintro e wU ⟨gU, cU, rU, rfl, hgU, hbxU, hlU, hvU, hlenU, hcU, hbU⟩; have HbxU := Lib.hid hbxU; have HlU := Lib.hid hlU; have HvU := Lib.hid hvU; have HlenU := Lib.hid hlenU; have HbU := Lib.hid hbU; have HB2 := Lib.hid (below_mono HB1.out hbU); clear hbxU hlU hvU hlenU hbU))
  have hgVU : gV < gU := Nat.lt_of_lt_of_le HbxV.out.lt hgU
  have hgV0 : w.heap.size ≤ gV := by have h1 := HB0.out.size; simp at h1 hgV; omega
  have hvlt : Hid (val rV < 4294967296 ^ l2.length) := by unfold Hid; rw [HvV.out]; exact Hnorm.out
  have Hvv : Hid (val (rV.take l2.length) = val l2 * 2 ^ s) := (val_take_of_lt hvlt.out).1.trans HvV.out
  have HlimV : Hid (Lim (rV.take l2.length)) := lim_take HlV.out _
  have HlenT : Hid ((rV.take l2.length).length = l2.length) := by unfold Hid; rw [List.length_take, HlenV.out]; omega
  have HSV : Hid (Sl wU (some ⟨gV, 0, none⟩) (rV.take l2.length) cV) := (HbxV.out.kept HbU.out).slTake HlV.out (by rw [HlenV.out]; exact hn1N) (by omega) (by omega)
  have Hvtop : Hid (0 < (rV.take l2.length)[l2.length - 1]?.getD 0) := norm_top (by omega) HlenT.out HlimV.out Hct.out (by rw [Hvv.out]; exact Nat.le_mul_of_pos_right _ (Nat.pow_pos (by omega)))
  generalize rV.take l2.length = v at *
  have Hst := Lib.hid (Hstart.out rU L HvU.out (by rw [← HML.out]; exact HM.out))
  clear hvlt HbxV HlV HvV HlenV HbV HB1 HB0 Hstart
  have hgUs := HbxU.out.lt
  have hzU : w.heap.size ≤ wU.heap.size := HB2.out.size
  go_wp2
  go_loopw [12] (fun jv wr => ∃ (m : Nat) (Q U : List Nat), jv = .int .i64 ((m : Int) - 1) ∧ m ≤ L ∧ Q.length = L ∧ Lim Q ∧ Bx wr wU.heap.size Q ∧ U.length = M ∧ Lim U ∧ Bx wr gU U ∧ Sl wr (some ⟨gV, 0, none⟩) v cV ∧
      val (Q.drop m) * val v + val (U.drop m) = val (rU.drop m) ∧ val (U.drop m) < val v ∧ U.take m = rU.take m ∧ Below w.heap.size w wr) (fun jv _ => (intOf jv + 1).toNat)
  case atStart => exact ⟨L, List.replicate L 0, rU, rfl, Nat.le_refl _, by simp, lim_replicate _, (Blk.zrow wU _ L).bx, HlenU.out, HlU.out, HbxU.out.alloc _, HSV.out.alloc _, by rw [List.drop_of_length_le (by simp)]; simp [val], by rw [Hvv.out]; exact Hst.out, rfl, HB2.out.alloc HB2.out.size _⟩
  case round =>
    obtain ⟨m, Q, U, rfl, hmL, hQl, hQlim, hQb, hUl, hUlim, hUb, hSv, hinv, hlt, htk, hb⟩ := hrel
    have HQl := Lib.hid hQl
    have HQlim := Lib.hid hQlim
    have HQb := Lib.hid hQb
    have HUl := Lib.hid hUl
    have HUlim := Lib.hid hUlim
    have HUb := Lib.hid hUb
    have HSv := Lib.hid hSv
    have Hinv := Lib.hid hinv
    have Hlt := Lib.hid hlt
    have Htk := Lib.hid htk
    have Hbb := Lib.hid hb
    clear hQl hQlim hQb hUl hUlim hUb hSv hinv hlt htk hb
    cases m with
    | zero =>
      have Hd : Hid (val Q = val l1 / val l2 ∧ val U / 2 ^ s = val l1 % val l2) := by
        have h1 := Hinv.out
        have h2 := Hlt.out
        simp only [List.drop_zero] at h1 h2
        rw [HvU.out, Hvv.out] at h1
        rw [Hvv.out] at h2
        exact Hdone.out _ _ h1 h2
      have Hsu : Hid (Sl wr (some ⟨gU, 0, none⟩) U cU) := ⟨HUb.out.rd0, HUlim.out, by rw [HUl.out]; exact hcU, by rw [HUl.out]; omega⟩
      have Hsq : Hid (Sl wr (some ⟨wU.heap.size, 0, none⟩) Q L) := ⟨HQb.out.rd0, HQlim.out, by rw [HQl.out]; exact Nat.le_refl _, by rw [HQl.out]; omega⟩
      have htr := trim_any (some ⟨gU, 0, none⟩) U cU wr Hsu.out
      rw [HUl.out] at htr
      have Htl : Hid ((limbs (val U)).length ≤ 1000000) := by
        have h1 := trimN_le U U.length
        rw [trim_len HUlim.out, HUl.out] at h1
        unfold Hid; omega
      have Hst2 := Lib.hid Hsu.out.trim
      go_wp2_with fail
      refine htr.mono ?_
      rintro e w3 ⟨rfl, rfl⟩
      clear htr
      go_wp2_with fail
      refine (right_any _ _ _ s _ Hst2.out Htl.out (by omega)).mono ?_
      rw [val_limbs]
      rintro e w4 ⟨A4, c4, o4, rfl, hs4, hv4, hl4, hb4⟩
      have Hs4 := Lib.hid hs4
      have Hv4 : Hid (val o4 = val l1 % val l2) := hv4.trans Hd.out.2
      have Hb4 := Lib.hid (below_mono Hbb.out hb4)
      have Hsq4 := Lib.hid (Hsq.out.below hb4)
      have Ht4 := Lib.hid hs4.trim
      clear hs4 hv4 hl4 hb4
      have htq := trim_any (some ⟨wU.heap.size, 0, none⟩) Q L w4 Hsq4.out
      rw [HQl.out, Hd.out.1] at htq
      have Htq4 : Hid (Sl w4 (some ⟨wU.heap.size, 0, none⟩) (limbs (val l1 / val l2)) L) := by have h := Hsq4.out.trim; rw [Hd.out.1] at h; exact h
      go_wp2_with fail
      refine htq.mono ?_
      rintro e w5 ⟨rfl, rfl⟩
      clear htq
      have htr4 := trim_any A4 o4 c4 w4 Hs4.out
      have Ht5 : Hid (Sl w4 A4 (limbs (val l1 % val l2)) c4) := by have h := Ht4.out; rw [Hv4.out] at h; exact h
      rw [Hv4.out] at htr4
      go_wp2_with fail
      refine htr4.mono ?_
      rintro e w6 ⟨rfl, rfl⟩
      clear htr4
      go_wp2
      go_ret2
      exact ⟨some ⟨wU.heap.size, 0, none⟩, L, A4, c4, rfl, Htq4.out, Ht5.out, Hb4.out⟩
    | succ m =>
      have hmU : m < M := by omega
      obtain ⟨hsg1, hsg2, hsg3⟩ := div_seg (u := U) (v := v) (j := m) (n := l2.length) HUlim.out (by rw [HUl.out]; exact hmU) (by rw [Hvv.out]; exact Hnorm.out) Hlt.out
      have hstep := step_any gU m l2.length (cU - m) U v (some ⟨gV, 0, none⟩) cV wr HUb.out HUlim.out HSv.out HlenT.out hn2 (by omega) (by rw [HUl.out]; omega) (by omega) Hvtop.out (by rw [hsg1]; exact hsg2)
      unfold StepRes at hstep
      rw [HlenT.out, hsg1] at hstep
      have e1 : m + l2.length + 1 - m = l2.length + 1 := by omega
      have Hsg2 := Lib.hid hsg2
      have Hsg3 := Lib.hid hsg3
      have Hstep := Lib.hid hstep
      have hne : (m = cU) = False := by simp; omega
      have hmc : m + l2.length + 1 ≤ cU := by omega
      have hgU0 : w.heap.size ≤ gU := by omega
      have Hvp : Hid (0 < val v) := by unfold Hid; have := Hlt.out; omega
      clear hsg1 hsg2 hsg3 hstep
      have Hdv : Hid (val (U.drop m) / val v < 4294967296) := digit_lt Hsg2.out
      go_wp2_with fail
      refine Hstep.out.mono ?_
      rintro e w3 ⟨sg, rfl, hsl, hslim, hsv, hbx, hbut⟩
      have HQ3 : Hid (Bx w3 wU.heap.size Q) := HQb.out.but hbut (by omega)
      have HV3 : Hid (Sl w3 (some ⟨gV, 0, none⟩) v cV) := HSv.out.but (by rintro ad ⟨⟩; simp; omega) hbut
      have HB3 : Hid (Below w.heap.size w w3) := But.below' Hbb.out hbut hgU0
      have HU3 := Lib.hid hbx
      have Hsl := Lib.hid hsl
      have Hslim := Lib.hid hslim
      have Hrd := Lib.hid (div_round (u := U) (u0 := rU) (q := Q) (s := sg) (V := val v) (d := val (U.drop m) / val v) (by rw [HUl.out]; exact hmU) (by rw [HUl.out]; exact HlenU.out) (by rw [HQl.out]; omega) Htk.out (by rw [hsl]; exact Hsg3.out) Hinv.out (by rw [hsv, Nat.mul_comm]; exact Nat.div_add_mod _ _))
      have Hsv : Hid (val sg < val v) := by unfold Hid; rw [hsv]; exact Nat.mod_lt _ Hvp.out
      have hcell : w3.cell? ⟨wU.heap.size, m, none⟩ = some (.int .u32 (Q[m]?.getD 0 : Nat)) := HQ3.out.cell (by rw [HQl.out]; omega)
      have hfr : w3.frozen? ⟨wU.heap.size, m, none⟩ = false := HQ3.out.frozen m
      clear hsl hslim hsv hbx hbut Hstep
      generalize hdg : val (U.drop m) / val v = dg at *
      clear hdg
      go_wp2
      go_roundw
      case rel =>
        refine ⟨m, Q.set m dg, seg U m sg, by go_num, by omega, by rw [List.length_set]; exact HQl.out, lim_set HQlim.out Hdv.out, HQ3.out.set rfl (by rw [HQl.out]; omega), by rw [seg_length (by rw [Hsl.out, HUl.out]; omega)]; exact HUl.out, lim_append (lim_take HUlim.out _) (lim_append Hslim.out (lim_drop HUlim.out _)), HU3.out.setFar (by simp; omega) _, ?_, Hrd.out.1, ?_, Hrd.out.2.2, HB3.out.setCell (p := ⟨wU.heap.size, m, none⟩) hzU _⟩
        · refine ⟨fun hl => ?_, HV3.out.lim, HV3.out.le, HV3.out.len⟩
          obtain ⟨b, o, e, hc⟩ := HV3.out.rd hl
          cases e
          exact ⟨gV, 0, rfl, fun i hi => by rw [World.cell?_setCell_other _ _ _ _ (by simp <;> omega)]; exact hc i hi⟩
        · have h := Hrd.out.2.1
          unfold seg
          rw [h]; exact Hsv.out
      case measure => simp [intOf]

end Go.Proofs.Ytghallnooijfhaa
/- wide.divide answers quotient and remainder. -/
namespace Go.Proofs.Ytghallnooijfhaa
theorem divide_any (A1 A2 : Option Addr) (l1 l2 : List Nat) (c1 c2 : Nat) (w : World) (hs1 : Sl w A1 l1 c1) (hs2 : Sl w A2 l2 c2) (k1 : Canon l1) (k2 : Canon l2) (hne : l2 ≠ []) (hlen : l1.length ≤ 100000) :
    Calls Try.prog 75 #[.slice A1 l1.length c1, .slice A2 l2.length c2] w (LRes2 (limbs (val l1 / val l2)) (limbs (val l1 % val l2)) w) := by
  by_cases hv : val l1 < val l2
  · exact divide_small A1 A2 l1 l2 c1 c2 w hs1 hs2 k1 k2 hv
  · match l2, hne with
    | [d], _ => exact divide_one A1 A2 l1 d c1 c2 w hs1 hs2 k1 k2 (by omega) hlen
    | a :: b :: l, _ => exact divide_long A1 A2 l1 (a :: b :: l) c1 c2 w hs1 hs2 k1 k2 (by omega) (by simp) hlen

end Go.Proofs.Ytghallnooijfhaa

namespace Go.Proofs.Ytghallnooijfhaa
open Go.RowKit
attribute [local go_sem ↓] Go.wp_at_zero Go.wp_at_succ
set_option maxRecDepth 100000 in
set_option maxHeartbeats 2000000 in
theorem wdivmod_adj (n1 n2 : Bool) (A1 A2 : Option Addr) (l1 l2 : List Nat) (c1 c2 : Nat) (w : World) (hs1 : Sl w A1 l1 c1) (hs2 : Sl w A2 l2 c2) (hbad : (badL n1 l1 || badL n2 l2) = false) (h0 : l2.length ≠ 0) (hadj : dadj n1 (val l1) n2 (val l2) = true) :
    Calls Try.prog 55 #[.agg #[.bool n1, .slice A1 l1.length c1], .agg #[.bool n2, .slice A2 l2.length c2]] w (DRes (dmS n1 l1 n2 l2) w) := by
  have Hs1 := Lib.hid hs1
  have Hs2 := Lib.hid hs2
  have hg := Bool.or_eq_false_iff.1 hbad
  obtain ⟨k1, m1, p1⟩ := good_canon hs1.lim hg.1
  obtain ⟨k2, m2, p2⟩ := good_canon hs2.lim hg.2
  have Hk1 := Lib.hid k1
  have Hk2 := Lib.hid k2
  have hc := chk2_good hbad
  have h00 : ((l2.length : Int) == 0) = false := by rw [beq_eq_false_iff_ne]; omega
  have hb0 : 0 < val l2 := canon_val_pos k2 (by omega)
  have hne : l2 ≠ [] := fun h => h0 (by rw [h]; rfl)
  have Hres : Hid (dmS n1 l1 n2 l2 = (wOf (dqZ n1 (val l1) n2 (val l2)), wOf (drZ n1 (val l1) n2 (val l2)), 0)) := by unfold Hid dmS; rw [hbad, if_neg (by simp), if_neg h0]
  have Hq := Lib.hid (dmq (n1 := n1) (n2 := n2) k1 m1 hb0)
  have Hr := Lib.hid (dmr (n1 := n1) (n2 := n2) (l1 := l1) k2 m2 hb0)
  have hyl : (limbs (val l1 % val l2)).length ≤ l2.length := canon_len_le (canon_limbs _) k2 (by rw [val_limbs]; exact Nat.le_of_lt (Nat.mod_lt _ hb0))
  have hxl : (limbs (val l1 / val l2)).length ≤ l1.length := canon_len_le (canon_limbs _) k1 (by rw [val_limbs]; exact Nat.div_le_self _ _)
  have hz : (n1 != n2) = (!n1 == n2) := by cases n1 <;> cases n2 <;> rfl
  rw [hz] at Hq
  have Hmod : Hid (val l1 % val l2 ≤ val l2) := Nat.le_of_lt (Nat.mod_lt _ hb0)
  have hadj2 := hadj
  unfold dadj at hadj2
  rw [Bool.and_eq_true, decide_eq_true_eq] at hadj2
  have hneq := hadj2.2
  rw [hz] at hneq
  rw [hneq] at Hq
  clear hz
  have hyp : 0 < (limbs (val l1 % val l2)).length := limbs_len_pos.2 hadj2.1
  have Hqn : Hid (dqN n1 (val l1) n2 (val l2) = val l1 / val l2 + 1) := by unfold Hid dqN; rw [hadj, if_pos rfl]
  have Hrn : Hid (drN n1 (val l1) n2 (val l2) = val l2 - val l1 % val l2) := by unfold Hid drN; rw [hadj, if_pos rfl]
  rw [Hres.out]
  have Hvx := Lib.hid (val_limbs (val l1 / val l2))
  have Hvy := Lib.hid (val_limbs (val l1 % val l2))
  have Hdiv : Hid (∀ W, Sl W A1 l1 c1 → Sl W A2 l2 c2 → Calls Try.prog 75 #[.slice A1 l1.length c1, .slice A2 l2.length c2] W (LRes2 (limbs (val l1 / val l2)) (limbs (val l1 % val l2)) W)) := fun W h1 h2 => divide_any A1 A2 l1 l2 c1 c2 W h1 h2 k1 k2 hne (by omega)
  generalize wOf (dqZ n1 (val l1) n2 (val l2)) = rq at *
  generalize wOf (drZ n1 (val l1) n2 (val l2)) = rr at *
  generalize dqN n1 (val l1) n2 (val l2) = qn at *
  generalize drN n1 (val l1) n2 (val l2) = rn at *
  generalize limbs (val l1 / val l2) = x at *
  generalize limbs (val l1 % val l2) = y at *
  generalize val l1 / val l2 = qd at *
  generalize val l1 % val l2 = md at *
  clear hg hbad k1 k2 p1 p2 hs1 hs2 hadj hadj2 hb0 hne Hres Hk1 Hk2
  go_enter Try.func55, Try.ntmps55
  go_wp2_with fail
  refine (check_any _ [⟨n1, A1, l1, c1⟩, ⟨n2, A2, l2, c2⟩] (by simp) _ ?hc).mono ?_
  case hc => exact Wcs.two ((((Hs1.out.alloc _).alloc _).alloc _).alloc _) ((((Hs2.out.alloc _).alloc _).alloc _).alloc _) (by simp)
  rintro e w1 ⟨rfl, hb⟩
  rw [chkW_two]
  have K1 : Hid (Cw w1 w.heap.size n1 A1 l1.length c1) := ⟨kept_cell hb (by go_simp), kept_cell hb (by go_simp)⟩
  have K2 : Hid (Cw w1 (w.heap.size + 1) n2 A2 l2.length c2) := ⟨kept_cell hb (by go_simp), kept_cell hb (by go_simp)⟩
  have R1 : Hid (Cw w1 (w.heap.size + 1 + 1) false none 0 0) := ⟨kept_cell hb (by go_simp), kept_cell hb (by go_simp)⟩
  have R2 : Hid (Cw w1 (w.heap.size + 1 + 1 + 1) false none 0 0) := ⟨kept_cell hb (by go_simp), kept_cell hb (by go_simp)⟩
  have F1 : Hid (Fw w1 (w.heap.size + 1 + 1)) := ⟨(hb.frozen (by simp <;> omega)).trans (by go_simp), (hb.frozen (by simp <;> omega)).trans (by go_simp)⟩
  have F2 : Hid (Fw w1 (w.heap.size + 1 + 1 + 1)) := ⟨(hb.frozen (by simp <;> omega)).trans (by go_simp), (hb.frozen (by simp <;> omega)).trans (by go_simp)⟩
  have B : Hid (Below w.heap.size w w1) := below_mono (((blw4 _ _ _ _ _).alloc (by simp <;> omega) _)) hb
  have S1 : Hid (Sl w1 A1 l1 c1) := (((((Hs1.out.alloc _).alloc _).alloc _).alloc _).alloc _).below hb
  have S2 : Hid (Sl w1 A2 l2 c2) := (((((Hs2.out.alloc _).alloc _).alloc _).alloc _).alloc _).below hb
  clear hb
  obtain ⟨p0, p1⟩ := K1.out
  obtain ⟨p2, p3⟩ := K2.out
  go_wp2_with fail
  refine (Hdiv.out _ S1.out S2.out).mono ?_
  rintro e w2 ⟨A5, c5, A6, c6, rfl, hs5, hs6, hb⟩
  clear p0 p1 p2 p3
  have S5 := Lib.hid hs5
  have S6 := Lib.hid hs6
  clear hs5 hs6 Hdiv
  replace F1 := kFw F1 R1 hb
  replace F2 := kFw F2 R2 hb
  replace K1 := kW K1 hb
  replace K2 := kW K2 hb
  replace R1 := kW R1 hb
  replace R2 := kW R2 hb
  replace S1 := kS S1 hb
  replace S2 := kS S2 hb
  replace B := kB B hb
  clear hb
  obtain ⟨p0, p1⟩ := K1.out
  obtain ⟨p2, p3⟩ := K2.out
  go_wp2_with fail
  refine (plus_any A5 (some ⟨w2.heap.size, 0, none⟩) x [1] c5 1 _ (S5.out.alloc _) ⟨Rd.one _ _ _, lim_one (by omega), Nat.le_refl _, by simp⟩ (by omega) (by simp)).mono ?_
  rintro e w3 ⟨A7, c7, x7, rfl, hs7, hv7, hn7, hb⟩
  clear p0 p1 p2 p3
  have S7 := Lib.hid hs7
  have Hv7 : Hid (val x7 = qn) := by unfold Hid; rw [hv7, Hvx.out, Hqn.out]; simp [val]
  clear hs7 hv7 hn7
  replace F1 := kFw1 F1 R1 hb
  replace F2 := kFw1 F2 R2 hb
  replace K1 := kW1 K1 hb
  replace K2 := kW1 K2 hb
  replace R1 := kW1 R1 hb
  replace R2 := kW1 R2 hb
  replace S1 := kS1 S1 hb
  replace S2 := kS1 S2 hb
  replace S5 := kS1 S5 hb
  replace S6 := kS1 S6 hb
  replace B := kB1 B hb
  clear hb
  obtain ⟨p0, p1⟩ := K1.out
  obtain ⟨p2, p3⟩ := K2.out
  go_wp2_with fail
  refine (minus_any A2 A6 l2 y c2 c6 _ S2.out S6.out hyl (by omega) (by rw [Hvy.out]; exact Hmod.out)).mono ?_
  rintro e w4 ⟨A8, c8, y8, rfl, hs8, hv8, hn8, hb⟩
  clear p0 p1 p2 p3
  have S8 := Lib.hid hs8
  have Hv8 : Hid (val y8 = rn) := by unfold Hid; rw [hv8, Hvy.out, Hrn.out]
  clear hs8 hv8 hn8
  replace F1 := kFw F1 R1 hb
  replace F2 := kFw F2 R2 hb
  replace K1 := kW K1 hb
  replace K2 := kW K2 hb
  replace R1 := kW R1 hb
  replace R2 := kW R2 hb
  replace S1 := kS S1 hb
  replace S2 := kS S2 hb
  replace S5 := kS S5 hb
  replace S6 := kS S6 hb
  replace S7 := kS S7 hb
  replace B := kB B hb
  clear hb
  obtain ⟨p0, p1⟩ := K1.out
  obtain ⟨p2, p3⟩ := K2.out
  go_wp2_with fail
  refine (made_any _ A7 x7 c7 _ S7.out).mono ?_
  rw [Hv7.out, Hq.out]
  rintro e w5 ⟨A9, c9, rfl, hs9, hb⟩
  clear p0 p1 p2 p3
  have S9 := Lib.hid hs9
  clear hs9
  replace F1 := kFw F1 R1 hb
  replace F2 := kFw F2 R2 hb
  replace K1 := kW K1 hb
  replace K2 := kW K2 hb
  replace R1 := kW R1 hb
  replace R2 := kW R2 hb
  replace S1 := kS S1 hb
  replace S2 := kS S2 hb
  replace S5 := kS S5 hb
  replace S6 := kS S6 hb
  replace S7 := kS S7 hb
  replace S8 := kS S8 hb
  replace B := kB B hb
  clear hb
  obtain ⟨p0, p1⟩ := K1.out
  obtain ⟨p2, p3⟩ := K2.out
  obtain ⟨f0, f1⟩ := F1.out
  obtain ⟨r0, r1⟩ := R1.out
  go_wp2_with fail
  refine (made_any _ A8 y8 c8 _ (S8.out.setW R1.out.1 R1.out.2 _ _)).mono ?_
  rw [Hv8.out, Hr.out]
  rintro e w6 ⟨A10, c10, rfl, hs10, hb⟩
  clear r0 r1 f0 f1
  clear p0 p1 p2 p3
  have T10 := Lib.hid hs10
  clear hs10
  have G1 : Hid (Fw w6 (w.heap.size + 1 + 1)) := Fw.keep (Fw.setW F1.out _ _) (Cw.new R1.out) hb
  have G2 : Hid (Fw w6 (w.heap.size + 1 + 1 + 1)) := Fw.keep (Fw.setW F2.out _ _) (Cw.setW R2.out (by omega) _ _) hb
  have Q1 : Hid (Cw w6 (w.heap.size + 1 + 1) rq.1 A9 rq.2.length c9) := Cw.keep (Cw.new R1.out) hb
  have Q2 : Hid (Cw w6 (w.heap.size + 1 + 1 + 1) false none 0 0) := Cw.keep (Cw.setW R2.out (by omega) _ _) hb
  have T9 : Hid (Sl w6 A9 rq.2 c9) := Sl.below (S9.out.setW R1.out.1 R1.out.2 _ _) hb
  have C : Hid (Below w.heap.size w w6) := below_mono (below_setW B.out (by omega) _ _) hb
  clear hb K1 K2 R1 R2 F1 F2 B
  obtain ⟨f0, f1⟩ := G2.out
  obtain ⟨r0, r1⟩ := Q2.out
  go_wp2_with fail
  clear r0 r1 f0 f1
  have X1 : Hid (Cw ((w6.setCell ⟨(w.heap.size + 1 + 1 + 1), 0, none⟩ (.bool rr.1)).setCell ⟨(w.heap.size + 1 + 1 + 1), 1, none⟩ (.slice A10 rr.2.length c10)) (w.heap.size + 1 + 1) rq.1 A9 rq.2.length c9) := Cw.setW Q1.out (by omega) _ _
  have X2 : Hid (Cw ((w6.setCell ⟨(w.heap.size + 1 + 1 + 1), 0, none⟩ (.bool rr.1)).setCell ⟨(w.heap.size + 1 + 1 + 1), 1, none⟩ (.slice A10 rr.2.length c10)) (w.heap.size + 1 + 1 + 1) rr.1 A10 rr.2.length c10) := Cw.new Q2.out
  have Y1 : Hid (Fw ((w6.setCell ⟨(w.heap.size + 1 + 1 + 1), 0, none⟩ (.bool rr.1)).setCell ⟨(w.heap.size + 1 + 1 + 1), 1, none⟩ (.slice A10 rr.2.length c10)) (w.heap.size + 1 + 1)) := Fw.setW G1.out _ _
  have Y2 : Hid (Fw ((w6.setCell ⟨(w.heap.size + 1 + 1 + 1), 0, none⟩ (.bool rr.1)).setCell ⟨(w.heap.size + 1 + 1 + 1), 1, none⟩ (.slice A10 rr.2.length c10)) (w.heap.size + 1 + 1 + 1)) := Fw.setW G2.out _ _
  have Z9 : Hid (Sl ((w6.setCell ⟨(w.heap.size + 1 + 1 + 1), 0, none⟩ (.bool rr.1)).setCell ⟨(w.heap.size + 1 + 1 + 1), 1, none⟩ (.slice A10 rr.2.length c10)) A9 rq.2 c9) := T9.out.setW Q2.out.1 Q2.out.2 _ _
  have Z10 : Hid (Sl ((w6.setCell ⟨(w.heap.size + 1 + 1 + 1), 0, none⟩ (.bool rr.1)).setCell ⟨(w.heap.size + 1 + 1 + 1), 1, none⟩ (.slice A10 rr.2.length c10)) A10 rr.2 c10) := T10.out.setW Q2.out.1 Q2.out.2 _ _
  have C2 : Hid (Below w.heap.size w ((w6.setCell ⟨(w.heap.size + 1 + 1 + 1), 0, none⟩ (.bool rr.1)).setCell ⟨(w.heap.size + 1 + 1 + 1), 1, none⟩ (.slice A10 rr.2.length c10))) := below_setW C.out (by omega) _ _
  generalize (w6.setCell ⟨(w.heap.size + 1 + 1 + 1), 0, none⟩ (.bool rr.1)).setCell ⟨(w.heap.size + 1 + 1 + 1), 1, none⟩ (.slice A10 rr.2.length c10) = wS at *
  clear Q1 Q2 G1 G2 T9 T10 C
  obtain ⟨f0, f1⟩ := Y1.out
  obtain ⟨f2, f3⟩ := Y2.out
  obtain ⟨r0, r1⟩ := X1.out
  obtain ⟨r2, r3⟩ := X2.out
  go_region
  go_wp2
  exact bodyPost_ret (v := .tuple #[.agg #[.bool rq.1, .slice A9 rq.2.length c9], .agg #[.bool rr.1, .slice A10 rr.2.length c10], .int .i64 0]) (by simp [results, Try.results55, go_sem, r0, r1, r2, r3]) rfl (dres_end (r := (rq, rr, 0)) Z9.out Z10.out X1.out X2.out C2.out (by omega) (by omega) (by omega))

set_option maxRecDepth 100000 in
set_option maxHeartbeats 2000000 in
theorem wdivmod_same (n1 n2 : Bool) (A1 A2 : Option Addr) (l1 l2 : List Nat) (c1 c2 : Nat) (w : World) (hs1 : Sl w A1 l1 c1) (hs2 : Sl w A2 l2 c2) (hbad : (badL n1 l1 || badL n2 l2) = false) (h0 : l2.length ≠ 0) (hadj : dadj n1 (val l1) n2 (val l2) = false) :
    Calls Try.prog 55 #[.agg #[.bool n1, .slice A1 l1.length c1], .agg #[.bool n2, .slice A2 l2.length c2]] w (DRes (dmS n1 l1 n2 l2) w) := by
  have Hs1 := Lib.hid hs1
  have Hs2 := Lib.hid hs2
  have hg := Bool.or_eq_false_iff.1 hbad
  obtain ⟨k1, m1, p1⟩ := good_canon hs1.lim hg.1
  obtain ⟨k2, m2, p2⟩ := good_canon hs2.lim hg.2
  have Hk1 := Lib.hid k1
  have Hk2 := Lib.hid k2
  have hc := chk2_good hbad
  have h00 : ((l2.length : Int) == 0) = false := by rw [beq_eq_false_iff_ne]; omega
  have hb0 : 0 < val l2 := canon_val_pos k2 (by omega)
  have hne : l2 ≠ [] := fun h => h0 (by rw [h]; rfl)
  have Hres : Hid (dmS n1 l1 n2 l2 = (wOf (dqZ n1 (val l1) n2 (val l2)), wOf (drZ n1 (val l1) n2 (val l2)), 0)) := by unfold Hid dmS; rw [hbad, if_neg (by simp), if_neg h0]
  have Hq := Lib.hid (dmq (n1 := n1) (n2 := n2) k1 m1 hb0)
  have Hr := Lib.hid (dmr (n1 := n1) (n2 := n2) (l1 := l1) k2 m2 hb0)
  have hz : (n1 != n2) = (!n1 == n2) := by cases n1 <;> cases n2 <;> rfl
  rw [hz] at Hq
  clear hz
  have Hqn : Hid (dqN n1 (val l1) n2 (val l2) = val l1 / val l2) := by unfold Hid dqN; rw [hadj, if_neg (by simp)]
  have Hrn : Hid (drN n1 (val l1) n2 (val l2) = val l1 % val l2) := by unfold Hid drN; rw [hadj, if_neg (by simp)]
  have Hcase : Hid (0 < (limbs (val l1 % val l2)).length → (!n1 == n2) = false) := by
    intro h
    unfold dadj at hadj
    rw [decide_eq_true (limbs_len_pos.1 h)] at hadj
    revert hadj
    cases n1 <;> cases n2 <;> simp
  rw [Hres.out]
  have Hvx := Lib.hid (val_limbs (val l1 / val l2))
  have Hvy := Lib.hid (val_limbs (val l1 % val l2))
  have Hdiv : Hid (∀ W, Sl W A1 l1 c1 → Sl W A2 l2 c2 → Calls Try.prog 75 #[.slice A1 l1.length c1, .slice A2 l2.length c2] W (LRes2 (limbs (val l1 / val l2)) (limbs (val l1 % val l2)) W)) := fun W h1 h2 => divide_any A1 A2 l1 l2 c1 c2 W h1 h2 k1 k2 hne (by omega)
  generalize wOf (dqZ n1 (val l1) n2 (val l2)) = rq at *
  generalize wOf (drZ n1 (val l1) n2 (val l2)) = rr at *
  generalize dqN n1 (val l1) n2 (val l2) = qn at *
  generalize drN n1 (val l1) n2 (val l2) = rn at *
  generalize limbs (val l1 / val l2) = x at *
  generalize limbs (val l1 % val l2) = y at *
  generalize val l1 / val l2 = qd at *
  generalize val l1 % val l2 = md at *
  clear hg hbad k1 k2 p1 p2 hs1 hs2 hadj hb0 hne Hres Hk1 Hk2
  go_enter Try.func55, Try.ntmps55
  go_wp2_with fail
  refine (check_any _ [⟨n1, A1, l1, c1⟩, ⟨n2, A2, l2, c2⟩] (by simp) _ ?hc).mono ?_
  case hc => exact Wcs.two ((((Hs1.out.alloc _).alloc _).alloc _).alloc _) ((((Hs2.out.alloc _).alloc _).alloc _).alloc _) (by simp)
  rintro e w1 ⟨rfl, hb⟩
  rw [chkW_two]
  have K1 : Hid (Cw w1 w.heap.size n1 A1 l1.length c1) := ⟨kept_cell hb (by go_simp), kept_cell hb (by go_simp)⟩
  have K2 : Hid (Cw w1 (w.heap.size + 1) n2 A2 l2.length c2) := ⟨kept_cell hb (by go_simp), kept_cell hb (by go_simp)⟩
  have R1 : Hid (Cw w1 (w.heap.size + 1 + 1) false none 0 0) := ⟨kept_cell hb (by go_simp), kept_cell hb (by go_simp)⟩
  have R2 : Hid (Cw w1 (w.heap.size + 1 + 1 + 1) false none 0 0) := ⟨kept_cell hb (by go_simp), kept_cell hb (by go_simp)⟩
  have F1 : Hid (Fw w1 (w.heap.size + 1 + 1)) := ⟨(hb.frozen (by simp <;> omega)).trans (by go_simp), (hb.frozen (by simp <;> omega)).trans (by go_simp)⟩
  have F2 : Hid (Fw w1 (w.heap.size + 1 + 1 + 1)) := ⟨(hb.frozen (by simp <;> omega)).trans (by go_simp), (hb.frozen (by simp <;> omega)).trans (by go_simp)⟩
  have B : Hid (Below w.heap.size w w1) := below_mono (((blw4 _ _ _ _ _).alloc (by simp <;> omega) _)) hb
  have S1 : Hid (Sl w1 A1 l1 c1) := (((((Hs1.out.alloc _).alloc _).alloc _).alloc _).alloc _).below hb
  have S2 : Hid (Sl w1 A2 l2 c2) := (((((Hs2.out.alloc _).alloc _).alloc _).alloc _).alloc _).below hb
  clear hb
  obtain ⟨p0, p1⟩ := K1.out
  obtain ⟨p2, p3⟩ := K2.out
  go_wp2_with fail
  refine (Hdiv.out _ S1.out S2.out).mono ?_
  rintro e w2 ⟨A5, c5, A6, c6, rfl, hs5, hs6, hb⟩
  clear p0 p1 p2 p3
  have S5 := Lib.hid hs5
  have S6 := Lib.hid hs6
  clear hs5 hs6 Hdiv
  have Hv5 : Hid (val x = qn) := by unfold Hid; rw [Hvx.out, Hqn.out]
  have Hv6 : Hid (val y = rn) := by unfold Hid; rw [Hvy.out, Hrn.out]
  replace F1 := kFw F1 R1 hb
  replace F2 := kFw F2 R2 hb
  replace K1 := kW K1 hb
  replace K2 := kW K2 hb
  replace R1 := kW R1 hb
  replace R2 := kW R2 hb
  replace S1 := kS S1 hb
  replace S2 := kS S2 hb
  replace B := kB B hb
  clear hb
  by_cases hyp : 0 < y.length
  · have hneq := Hcase.out hyp
    rw [hneq] at Hq
    obtain ⟨p0, p1⟩ := K1.out
    obtain ⟨p2, p3⟩ := K2.out
    go_wp2_with fail
    refine (made_any _ A5 x c5 _ S5.out).mono ?_
    rw [Hv5.out, Hq.out]
    rintro e w3 ⟨A9, c9, rfl, hs9, hb⟩
    clear p0 p1 p2 p3
    have S9 := Lib.hid hs9
    clear hs9
    replace F1 := kFw F1 R1 hb
    replace F2 := kFw F2 R2 hb
    replace K1 := kW K1 hb
    replace K2 := kW K2 hb
    replace R1 := kW R1 hb
    replace R2 := kW R2 hb
    replace S1 := kS S1 hb
    replace S2 := kS S2 hb
    replace S5 := kS S5 hb
    replace S6 := kS S6 hb
    replace B := kB B hb
    clear hb
    obtain ⟨p0, p1⟩ := K1.out
    obtain ⟨p2, p3⟩ := K2.out
    obtain ⟨f0, f1⟩ := F1.out
    obtain ⟨r0, r1⟩ := R1.out
    go_wp2_with fail
    refine (made_any _ A6 y c6 _ (S6.out.setW R1.out.1 R1.out.2 _ _)).mono ?_
    rw [Hv6.out, Hr.out]
    rintro e w4 ⟨A10, c10, rfl, hs10, hb⟩
    clear r0 r1 f0 f1
    clear p0 p1 p2 p3
    have T10 := Lib.hid hs10
    clear hs10
    have G1 : Hid (Fw w4 (w.heap.size + 1 + 1)) := Fw.keep (Fw.setW F1.out _ _) (Cw.new R1.out) hb
    have G2 : Hid (Fw w4 (w.heap.size + 1 + 1 + 1)) := Fw.keep (Fw.setW F2.out _ _) (Cw.setW R2.out (by omega) _ _) hb
    have Q1 : Hid (Cw w4 (w.heap.size + 1 + 1) rq.1 A9 rq.2.length c9) := Cw.keep (Cw.new R1.out) hb
    have Q2 : Hid (Cw w4 (w.heap.size + 1 + 1 + 1) false none 0 0) := Cw.keep (Cw.setW R2.out (by omega) _ _) hb
    have T9 : Hid (Sl w4 A9 rq.2 c9) := Sl.below (S9.out.setW R1.out.1 R1.out.2 _ _) hb
    have C : Hid (Below w.heap.size w w4) := below_mono (below_setW B.out (by omega) _ _) hb
    clear hb K1 K2 R1 R2 F1 F2 B
    obtain ⟨f0, f1⟩ := G2.out
    obtain ⟨r0, r1⟩ := Q2.out
    go_wp2_with fail
    clear r0 r1 f0 f1
    have X1 : Hid (Cw ((w4.setCell ⟨(w.heap.size + 1 + 1 + 1), 0, none⟩ (.bool rr.1)).setCell ⟨(w.heap.size + 1 + 1 + 1), 1, none⟩ (.slice A10 rr.2.length c10)) (w.heap.size + 1 + 1) rq.1 A9 rq.2.length c9) := Cw.setW Q1.out (by omega) _ _
    have X2 : Hid (Cw ((w4.setCell ⟨(w.heap.size + 1 + 1 + 1), 0, none⟩ (.bool rr.1)).setCell ⟨(w.heap.size + 1 + 1 + 1), 1, none⟩ (.slice A10 rr.2.length c10)) (w.heap.size + 1 + 1 + 1) rr.1 A10 rr.2.length c10) := Cw.new Q2.out
    have Y1 : Hid (Fw ((w4.setCell ⟨(w.heap.size + 1 + 1 + 1), 0, none⟩ (.bool rr.1)).setCell ⟨(w.heap.size + 1 + 1 + 1), 1, none⟩ (.slice A10 rr.2.length c10)) (w.heap.size + 1 + 1)) := Fw.setW G1.out _ _
    have Y2 : Hid (Fw ((w4.setCell ⟨(w.heap.size + 1 + 1 + 1), 0, none⟩ (.bool rr.1)).setCell ⟨(w.heap.size + 1 + 1 + 1), 1, none⟩ (.slice A10 rr.2.length c10)) (w.heap.size + 1 + 1 + 1)) := Fw.setW G2.out _ _
    have Z9 : Hid (Sl ((w4.setCell ⟨(w.heap.size + 1 + 1 + 1), 0, none⟩ (.bool rr.1)).setCell ⟨(w.heap.size + 1 + 1 + 1), 1, none⟩ (.slice A10 rr.2.length c10)) A9 rq.2 c9) := T9.out.setW Q2.out.1 Q2.out.2 _ _
    have Z10 : Hid (Sl ((w4.setCell ⟨(w.heap.size + 1 + 1 + 1), 0, none⟩ (.bool rr.1)).setCell ⟨(w.heap.size + 1 + 1 + 1), 1, none⟩ (.slice A10 rr.2.length c10)) A10 rr.2 c10) := T10.out.setW Q2.out.1 Q2.out.2 _ _
    have C2 : Hid (Below w.heap.size w ((w4.setCell ⟨(w.heap.size + 1 + 1 + 1), 0, none⟩ (.bool rr.1)).setCell ⟨(w.heap.size + 1 + 1 + 1), 1, none⟩ (.slice A10 rr.2.length c10))) := below_setW C.out (by omega) _ _
    generalize (w4.setCell ⟨(w.heap.size + 1 + 1 + 1), 0, none⟩ (.bool rr.1)).setCell ⟨(w.heap.size + 1 + 1 + 1), 1, none⟩ (.slice A10 rr.2.length c10) = wS at *
    clear Q1 Q2 G1 G2 T9 T10 C
    obtain ⟨f0, f1⟩ := Y1.out
    obtain ⟨f2, f3⟩ := Y2.out
    obtain ⟨r0, r1⟩ := X1.out
    obtain ⟨r2, r3⟩ := X2.out
    go_region
    go_wp2
    exact bodyPost_ret (v := .tuple #[.agg #[.bool rq.1, .slice A9 rq.2.length c9], .agg #[.bool rr.1, .slice A10 rr.2.length c10], .int .i64 0]) (by simp [results, Try.results55, go_sem, r0, r1, r2, r3]) rfl (dres_end (r := (rq, rr, 0)) Z9.out Z10.out X1.out X2.out C2.out (by omega) (by omega) (by omega))
  · have hyz : decide ((0 : Int) < (y.length : Int)) = false := decide_eq_false (by omega)
    obtain ⟨p0, p1⟩ := K1.out
    obtain ⟨p2, p3⟩ := K2.out
    go_wp2_with fail
    refine (made_any _ A5 x c5 _ S5.out).mono ?_
    rw [Hv5.out, Hq.out]
    rintro e w3 ⟨A9, c9, rfl, hs9, hb⟩
    clear p0 p1 p2 p3
    have S9 := Lib.hid hs9
    clear hs9
    replace F1 := kFw F1 R1 hb
    replace F2 := kFw F2 R2 hb
    replace K1 := kW K1 hb
    replace K2 := kW K2 hb
    replace R1 := kW R1 hb
    replace R2 := kW R2 hb
    replace S1 := kS S1 hb
    replace S2 := kS S2 hb
    replace S5 := kS S5 hb
    replace S6 := kS S6 hb
    replace B := kB B hb
    clear hb
    obtain ⟨p0, p1⟩ := K1.out
    obtain ⟨p2, p3⟩ := K2.out
    obtain ⟨f0, f1⟩ := F1.out
    obtain ⟨r0, r1⟩ := R1.out
    go_wp2_with fail
    refine (made_any _ A6 y c6 _ (S6.out.setW R1.out.1 R1.out.2 _ _)).mono ?_
    rw [Hv6.out, Hr.out]
    rintro e w4 ⟨A10, c10, rfl, hs10, hb⟩
    clear r0 r1 f0 f1
    clear p0 p1 p2 p3
    have T10 := Lib.hid hs10
    clear hs10
    have G1 : Hid (Fw w4 (w.heap.size + 1 + 1)) := Fw.keep (Fw.setW F1.out _ _) (Cw.new R1.out) hb
    have G2 : Hid (Fw w4 (w.heap.size + 1 + 1 + 1)) := Fw.keep (Fw.setW F2.out _ _) (Cw.setW R2.out (by omega) _ _) hb
    have Q1 : Hid (Cw w4 (w.heap.size + 1 + 1) rq.1 A9 rq.2.length c9) := Cw.keep (Cw.new R1.out) hb
    have Q2 : Hid (Cw w4 (w.heap.size + 1 + 1 + 1) false none 0 0) := Cw.keep (Cw.setW R2.out (by omega) _ _) hb
    have T9 : Hid (Sl w4 A9 rq.2 c9) := Sl.below (S9.out.setW R1.out.1 R1.out.2 _ _) hb
    have C : Hid (Below w.heap.size w w4) := below_mono (below_setW B.out (by omega) _ _) hb
    clear hb K1 K2 R1 R2 F1 F2 B
    obtain ⟨f0, f1⟩ := G2.out
    obtain ⟨r0, r1⟩ := Q2.out
    go_wp2_with fail
    clear r0 r1 f0 f1
    have X1 : Hid (Cw ((w4.setCell ⟨(w.heap.size + 1 + 1 + 1), 0, none⟩ (.bool rr.1)).setCell ⟨(w.heap.size + 1 + 1 + 1), 1, none⟩ (.slice A10 rr.2.length c10)) (w.heap.size + 1 + 1) rq.1 A9 rq.2.length c9) := Cw.setW Q1.out (by omega) _ _
    have X2 : Hid (Cw ((w4.setCell ⟨(w.heap.size + 1 + 1 + 1), 0, none⟩ (.bool rr.1)).setCell ⟨(w.heap.size + 1 + 1 + 1), 1, none⟩ (.slice A10 rr.2.length c10)) (w.heap.size + 1 + 1 + 1) rr.1 A10 rr.2.length c10) := Cw.new Q2.out
    have Y1 : Hid (Fw ((w4.setCell ⟨(w.heap.size + 1 + 1 + 1), 0, none⟩ (.bool rr.1)).setCell ⟨(w.heap.size + 1 + 1 + 1), 1, none⟩ (.slice A10 rr.2.length c10)) (w.heap.size + 1 + 1)) := Fw.setW G1.out _ _
    have Y2 : Hid (Fw ((w4.setCell ⟨(w.heap.size + 1 + 1 + 1), 0, none⟩ (.bool rr.1)).setCell ⟨(w.heap.size + 1 + 1 + 1), 1, none⟩ (.slice A10 rr.2.length c10)) (w.heap.size + 1 + 1 + 1)) := Fw.setW G2.out _ _
    have Z9 : Hid (Sl ((w4.setCell ⟨(w.heap.size + 1 + 1 + 1), 0, none⟩ (.bool rr.1)).setCell ⟨(w.heap.size + 1 + 1 + 1), 1, none⟩ (.slice A10 rr.2.length c10)) A9 rq.2 c9) := T9.out.setW Q2.out.1 Q2.out.2 _ _
    have Z10 : Hid (Sl ((w4.setCell ⟨(w.heap.size + 1 + 1 + 1), 0, none⟩ (.bool rr.1)).setCell ⟨(w.heap.size + 1 + 1 + 1), 1, none⟩ (.slice A10 rr.2.length c10)) A10 rr.2 c10) := T10.out.setW Q2.out.1 Q2.out.2 _ _
    have C2 : Hid (Below w.heap.size w ((w4.setCell ⟨(w.heap.size + 1 + 1 + 1), 0, none⟩ (.bool rr.1)).setCell ⟨(w.heap.size + 1 + 1 + 1), 1, none⟩ (.slice A10 rr.2.length c10))) := below_setW C.out (by omega) _ _
    generalize (w4.setCell ⟨(w.heap.size + 1 + 1 + 1), 0, none⟩ (.bool rr.1)).setCell ⟨(w.heap.size + 1 + 1 + 1), 1, none⟩ (.slice A10 rr.2.length c10) = wS at *
    clear Q1 Q2 G1 G2 T9 T10 C
    obtain ⟨f0, f1⟩ := Y1.out
    obtain ⟨f2, f3⟩ := Y2.out
    obtain ⟨r0, r1⟩ := X1.out
    obtain ⟨r2, r3⟩ := X2.out
    go_region
    go_wp2
    exact bodyPost_ret (v := .tuple #[.agg #[.bool rq.1, .slice A9 rq.2.length c9], .agg #[.bool rr.1, .slice A10 rr.2.length c10], .int .i64 0]) (by simp [results, Try.results55, go_sem, r0, r1, r2, r3]) rfl (dres_end (r := (rq, rr, 0)) Z9.out Z10.out X1.out X2.out C2.out (by omega) (by omega) (by omega))

set_option maxRecDepth 100000 in
set_option maxHeartbeats 2000000 in
theorem wdivmod_bad (n1 n2 : Bool) (A1 A2 : Option Addr) (l1 l2 : List Nat) (c1 c2 : Nat) (w : World) (hs1 : Sl w A1 l1 c1) (hs2 : Sl w A2 l2 c2) (hbad : (badL n1 l1 || badL n2 l2) = true) :
    Calls Try.prog 55 #[.agg #[.bool n1, .slice A1 l1.length c1], .agg #[.bool n2, .slice A2 l2.length c2]] w (DRes (dmS n1 l1 n2 l2) w) := by
  have Hs1 := Lib.hid hs1
  have Hs2 := Lib.hid hs2
  have hr : dmS n1 l1 n2 l2 = ((false, []), (false, []), 8) := by rw [dmS, hbad, if_pos rfl]
  have hc := chk2_bad hbad
  rw [hr]
  clear hr hbad
  clear hs1 hs2
  go_enter Try.func55, Try.ntmps55
  go_wp2_with fail
  refine (check_any _ [⟨n1, A1, l1, c1⟩, ⟨n2, A2, l2, c2⟩] (by simp) _ ?hc).mono ?_
  case hc => exact Wcs.two ((((Hs1.out.alloc _).alloc _).alloc _).alloc _) ((((Hs2.out.alloc _).alloc _).alloc _).alloc _) (by simp)
  rintro e w1 ⟨rfl, hb⟩
  rw [chkW_two]
  have K1 : Hid (Cw w1 w.heap.size n1 A1 l1.length c1) := ⟨kept_cell hb (by go_simp), kept_cell hb (by go_simp)⟩
  have K2 : Hid (Cw w1 (w.heap.size + 1) n2 A2 l2.length c2) := ⟨kept_cell hb (by go_simp), kept_cell hb (by go_simp)⟩
  have R1 : Hid (Cw w1 (w.heap.size + 1 + 1) false none 0 0) := ⟨kept_cell hb (by go_simp), kept_cell hb (by go_simp)⟩
  have R2 : Hid (Cw w1 (w.heap.size + 1 + 1 + 1) false none 0 0) := ⟨kept_cell hb (by go_simp), kept_cell hb (by go_simp)⟩
  have F1 : Hid (Fw w1 (w.heap.size + 1 + 1)) := ⟨(hb.frozen (by simp <;> omega)).trans (by go_simp), (hb.frozen (by simp <;> omega)).trans (by go_simp)⟩
  have F2 : Hid (Fw w1 (w.heap.size + 1 + 1 + 1)) := ⟨(hb.frozen (by simp <;> omega)).trans (by go_simp), (hb.frozen (by simp <;> omega)).trans (by go_simp)⟩
  have B : Hid (Below w.heap.size w w1) := below_mono (((blw4 _ _ _ _ _).alloc (by simp <;> omega) _)) hb
  have S1 : Hid (Sl w1 A1 l1 c1) := (((((Hs1.out.alloc _).alloc _).alloc _).alloc _).alloc _).below hb
  have S2 : Hid (Sl w1 A2 l2 c2) := (((((Hs2.out.alloc _).alloc _).alloc _).alloc _).alloc _).below hb
  clear hb
  obtain ⟨p0, p1⟩ := K1.out
  obtain ⟨p2, p3⟩ := K2.out
  obtain ⟨f0, f1⟩ := F1.out
  obtain ⟨f2, f3⟩ := F2.out
  obtain ⟨r0, r1⟩ := R1.out
  obtain ⟨r2, r3⟩ := R2.out
  go_wp2
  exact bodyPost_ret (v := .tuple #[.agg #[.bool false, .slice none 0 0], .agg #[.bool false, .slice none 0 0], .int .i64 8]) (by simp [results, Try.results55, go_sem, r0, r1, r2, r3]) rfl (dres_bad 8 B.out (by omega) (by omega))

set_option maxRecDepth 100000 in
set_option maxHeartbeats 2000000 in
theorem wdivmod_zero (n1 n2 : Bool) (A1 A2 : Option Addr) (l1 l2 : List Nat) (c1 c2 : Nat) (w : World) (hs1 : Sl w A1 l1 c1) (hs2 : Sl w A2 l2 c2) (hbad : (badL n1 l1 || badL n2 l2) = false) (h0 : l2.length = 0) :
    Calls Try.prog 55 #[.agg #[.bool n1, .slice A1 l1.length c1], .agg #[.bool n2, .slice A2 l2.length c2]] w (DRes (dmS n1 l1 n2 l2) w) := by
  have Hs1 := Lib.hid hs1
  have Hs2 := Lib.hid hs2
  have hr : dmS n1 l1 n2 l2 = ((false, []), (false, []), 18) := by rw [dmS, hbad, if_neg (by simp), if_pos h0]
  have hc := chk2_good hbad
  rw [hr]
  have h00 : ((l2.length : Int) == 0) = true := by rw [beq_iff_eq]; omega
  clear hr hbad h0
  clear hs1 hs2
  go_enter Try.func55, Try.ntmps55
  go_wp2_with fail
  refine (check_any _ [⟨n1, A1, l1, c1⟩, ⟨n2, A2, l2, c2⟩] (by simp) _ ?hc).mono ?_
  case hc => exact Wcs.two ((((Hs1.out.alloc _).alloc _).alloc _).alloc _) ((((Hs2.out.alloc _).alloc _).alloc _).alloc _) (by simp)
  rintro e w1 ⟨rfl, hb⟩
  rw [chkW_two]
  have K1 : Hid (Cw w1 w.heap.size n1 A1 l1.length c1) := ⟨kept_cell hb (by go_simp), kept_cell hb (by go_simp)⟩
  have K2 : Hid (Cw w1 (w.heap.size + 1) n2 A2 l2.length c2) := ⟨kept_cell hb (by go_simp), kept_cell hb (by go_simp)⟩
  have R1 : Hid (Cw w1 (w.heap.size + 1 + 1) false none 0 0) := ⟨kept_cell hb (by go_simp), kept_cell hb (by go_simp)⟩
  have R2 : Hid (Cw w1 (w.heap.size + 1 + 1 + 1) false none 0 0) := ⟨kept_cell hb (by go_simp), kept_cell hb (by go_simp)⟩
  have F1 : Hid (Fw w1 (w.heap.size + 1 + 1)) := ⟨(hb.frozen (by simp <;> omega)).trans (by go_simp), (hb.frozen (by simp <;> omega)).trans (by go_simp)⟩
  have F2 : Hid (Fw w1 (w.heap.size + 1 + 1 + 1)) := ⟨(hb.frozen (by simp <;> omega)).trans (by go_simp), (hb.frozen (by simp <;> omega)).trans (by go_simp)⟩
  have B : Hid (Below w.heap.size w w1) := below_mono (((blw4 _ _ _ _ _).alloc (by simp <;> omega) _)) hb
  have S1 : Hid (Sl w1 A1 l1 c1) := (((((Hs1.out.alloc _).alloc _).alloc _).alloc _).alloc _).below hb
  have S2 : Hid (Sl w1 A2 l2 c2) := (((((Hs2.out.alloc _).alloc _).alloc _).alloc _).alloc _).below hb
  clear hb
  obtain ⟨p0, p1⟩ := K1.out
  obtain ⟨p2, p3⟩ := K2.out
  obtain ⟨f0, f1⟩ := F1.out
  obtain ⟨f2, f3⟩ := F2.out
  obtain ⟨r0, r1⟩ := R1.out
  obtain ⟨r2, r3⟩ := R2.out
  go_wp2
  exact bodyPost_ret (v := .tuple #[.agg #[.bool false, .slice none 0 0], .agg #[.bool false, .slice none 0 0], .int .i64 18]) (by simp [results, Try.results55, go_sem, r0, r1, r2, r3]) rfl (dres_bad 18 B.out (by omega) (by omega))

theorem wdivmod_any (n1 n2 : Bool) (A1 A2 : Option Addr) (l1 l2 : List Nat) (c1 c2 : Nat) (w : World) (hs1 : Sl w A1 l1 c1) (hs2 : Sl w A2 l2 c2) :
    Calls Try.prog 55 #[.agg #[.bool n1, .slice A1 l1.length c1], .agg #[.bool n2, .slice A2 l2.length c2]] w (DRes (dmS n1 l1 n2 l2) w) := by
  cases hbad : badL n1 l1 || badL n2 l2
  · by_cases h0 : l2.length = 0
    · exact wdivmod_zero n1 n2 A1 A2 l1 l2 c1 c2 w hs1 hs2 hbad h0
    · cases hadj : dadj n1 (val l1) n2 (val l2)
      · exact wdivmod_same n1 n2 A1 A2 l1 l2 c1 c2 w hs1 hs2 hbad h0 hadj
      · exact wdivmod_adj n1 n2 A1 A2 l1 l2 c1 c2 w hs1 hs2 hbad h0 hadj
  · exact wdivmod_bad n1 n2 A1 A2 l1 l2 c1 c2 w hs1 hs2 hbad

end Go.Proofs.Ytghallnooijfhaa

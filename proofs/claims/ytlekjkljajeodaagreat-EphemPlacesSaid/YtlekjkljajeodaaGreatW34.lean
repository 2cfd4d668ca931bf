import Derived.Test.YtlekjkljajeodaaGreatW6
import Derived.Test.YtlekjkljajeodaaGreatW32
import Derived.Test.YtlekjkljajeodaaGreatW30
set_option maxHeartbeats 4000000
set_option maxRecDepth 100000
namespace Go.Proofs.YtlekjkljajeodaaGreat
open Lib renaming hid → lh
open Go.RowKit
theorem over_small (A1 A2 : Option Addr) (l1 l2 : List Nat) (c1 c2 : Nat) (w : World) (hs1 : Sl w A1 l1 c1) (hs2 : Sl w A2 l2 c2) (k1 : Canon l1) (k2 : Canon l2) (hv : val l1 < val l2) :
  Calls Tryz.prog 197 #[.slice A1 l1.length c1, .slice A2 l2.length c2] w (LRes2 (q0e (val l1 / val l2)) (q0e (val l1 % val l2)) w) := by
 have Hcmp := lh (cmpL_lt k1 k2 hv);rw [Nat.div_eq_of_lt hv, Nat.mod_eq_of_lt hv, canon_eq k1, limbs_zero];have Hk := lh (canon_eq k1);have Hs1 := lh hs1;have Hs2 := lh hs2;clear hs1 hs2 k1 k2 hv;go_enter Tryz.func197, Tryz.ntmps197
 go_wp2_with fail
 refine (q2o _ _ _ _ _ _ _ Hs1.out Hs2.out).mono ?_;rintro e w1 ⟨rfl, nd, rfl⟩;have hb : Below w.heap.size w (w.drewN nd) := below_drewN (Below.refl _ _) _;generalize w.drewN nd = w1 at *;rw [Hcmp.out];have Hb := lh hb;clear hb;go_wp2_with fail
 refine (q2h _ _ _ _ (Hs1.out.below Hb.out)).mono ?_;rintro e w2 ⟨A', c', rfl, hsl, hb2⟩;rw [Hk.out] at hsl;rw [Hk.out];have Hsl := lh hsl;have Hb2 := lh (q0a Hb.out hb2);clear hsl hb2;go_wp2
 go_ret2
 exact ⟨none, 0, A', c', rfl, Sl.nil _ _ _, Hsl.out, Hb2.out⟩
theorem over_one (A1 A2 : Option Addr) (l1 : List Nat) (d : Nat) (c1 c2 : Nat) (w : World) (hs1 : Sl w A1 l1 c1) (hs2 : Sl w A2 [d] c2) (k1 : Canon l1) (k2 : Canon [d]) (hv : val [d] ≤ val l1) (hlen : l1.length ≤ 100000) :
  Calls Tryz.prog 197 #[.slice A1 l1.length c1, .slice A2 1 c2] w (LRes2 (q0e (val l1 / val [d])) (q0e (val l1 % val [d])) w) := by
 have hc0 := cmpL_ge k1 k2 hv;have hd : 0 < d := (by have := k2.2 (by simp); simp at this; omega);have hd2 : d < 4294967296 := hs2.lim d (by simp);have hvd : val [d] = d := (by simp [val]);rw [hvd];have Hs1 := lh hs1;have Hs2 := lh hs2;clear hs1 hs2 k1 k2 hv hvd;have hcmp := fun W h1 h2 => q2o A1 A2 l1 [d] c1 c2 W h1 h2;simp only [List.length_cons, List.length_nil, Nat.zero_add] at hcmp;generalize cmpL l1 [d] = z at *;have Hc := lh hcmp;clear hcmp;go_enter Tryz.func197, Tryz.ntmps197
 go_wp2_with fail
 refine (Hc.out w Hs1.out Hs2.out).mono ?_;rintro e w1 ⟨rfl, nd, rfl⟩;have Hb : Hid (Below w.heap.size w (w.drewN nd)) := below_drewN (Below.refl _ _) _;generalize w.drewN nd = w1 at *;obtain ⟨b2, o2, rfl, hx⟩ := (Hs2.out.below Hb.out).rd.at_ (k := 0) (by simp);simp only [Nat.add_zero, List.getElem?_cons_zero, Option.getD_some] at hx;go_wp2_with fail
 refine (rshort_any _ _ _ _ _ (Hs1.out.below Hb.out) (by omega) hd hd2).mono ?_;rintro e w2 ⟨A', c', A2', c2', rfl, hsl, hsl2, hb2⟩;have Hsl := lh hsl;have Hsl2 := lh hsl2;have Hb2 := lh (q0a Hb.out hb2);clear hsl hsl2 hb2 hx;go_wp2
 go_ret2
 exact ⟨A', c', A2', c2', rfl, Hsl.out, Hsl2.out, Hb2.out⟩
end Go.Proofs.YtlekjkljajeodaaGreat
namespace Go.Proofs.YtlekjkljajeodaaGreat
open Lib renaming hid → lh
open Go.RowKit
attribute [local go_sem ↓] Go.wp_at_zero Go.wp_at_succ
theorem wrap_shl32 (x t : Nat) (h : x * 2 ^ t < 4294967296) : IntKind.u32.wrap ((x : Int) * 2 ^ t) = ((x * 2 ^ t : Nat) : Int) := by
 have h3 : (x : Int) * 2 ^ t = ((x * 2 ^ t : Nat) : Int) := (by push_cast; rfl);rw [h3, IntKind.wrap_u32];omega
theorem over_long (A1 A2 : Option Addr) (l1 l2 : List Nat) (c1 c2 : Nat) (w : World) (hs1 : Sl w A1 l1 c1) (hs2 : Sl w A2 l2 c2) (k1 : Canon l1) (k2 : Canon l2) (hv : val l2 ≤ val l1) (hn2 : 2 ≤ l2.length) (hlen : l1.length ≤ 100000) :
  Calls Tryz.prog 197 #[.slice A1 l1.length c1, .slice A2 l2.length c2] w (LRes2 (q0e (val l1 / val l2)) (q0e (val l1 % val l2)) w) := by
 have hc0 := cmpL_ge k1 k2 hv;have hll := q0y k2 k1 hv;have htop0 : 0 < l2[l2.length - 1]?.getD 0 := (by have := k2.2 (by omega); omega);have htop1 := q0h k2.1 (l2.length - 1);obtain ⟨s, hs32, hts0, hts, hts1⟩ := norm_ex htop0 htop1;have Hsh := lh hts1;have Hs0 := lh hts0;have Hs1t := lh hts;have Hnorm := lh (norm_lt k2.1 hs32 (by omega) hts);have Hct := lh (canon_top k2 (by omega));have Hstart : Hid (∀ u m, val u = val l1 * 2 ^ s → m + l2.length = l1.length + 1 → val (u.drop m) < val l2 * 2 ^ s) := fun u m hu hm => div_start k1.1 k2 (by omega) hu hm;have Hdone : Hid (∀ q r, q * (val l2 * 2 ^ s) + r = val l1 * 2 ^ s → r < val l2 * 2 ^ s → q = val l1 / val l2 ∧ r / 2 ^ s = val l1 % val l2) := fun q r h1 h2 => div_done (Nat.pow_pos (by omega)) (q0t k2 (by omega)) h1 h2;have Hs1 := lh hs1;have Hs2 := lh hs2;have hV := fun W (hW : Below w.heap.size w W) => gres_of (by omega) (rleft_any A2 l2 c2 s W (hs2.below hW) (by omega) hs32);have hU := fun W (hW : Below w.heap.size w W) => gres_of (by omega) (rleft_any A1 l1 c1 s W (hs1.below hW) (by omega) hs32);obtain ⟨i0, hi, hz0, hz1, hz2⟩ := info_parts q2q;obtain ⟨M, hM⟩ : ∃ M, M = l1.length + 1 := ⟨_, rfl⟩;obtain ⟨N1, hN1⟩ : ∃ N1, N1 = l2.length + 1 := ⟨_, rfl⟩;rw [← hM] at hU;rw [← hN1] at hV;obtain ⟨L, hL⟩ : ∃ L, L = M - l2.length := ⟨_, rfl⟩;have hL1 : (M : Int) - (l2.length : Int) = (L : Int) := (by omega);have hmk := fun W => q1a (P := Tryz.prog) 63 187 i0 Tryz.underlying63 hi hz0 hz1 hz2 (L : Int) (L : Int) L L rfl rfl (Nat.le_refl _) (by omega) W;have hML : M = L + l2.length := (by omega);have hM3 : M ≤ 100001 := (by omega);have HM : Hid (M = l1.length + 1) := hM;have HML : Hid (M = L + l2.length) := hML;have hM4 : l2.length + 1 ≤ M := (by omega);have hM5 : L ≤ M := (by omega);have HN1 : Hid (N1 = l2.length + 1) := hN1;have hn1N : l2.length ≤ N1 := (by omega);generalize hgx : l2[l2.length - 1]?.getD 0 = x at *;have Hx := lh hgx;generalize cmpL l1 l2 = z at hc0;have Hc : Hid (∀ W, Sl W A1 l1 c1 → Sl W A2 l2 c2 → Calls Tryz.prog 137 #[.slice A1 l1.length c1, .slice A2 l2.length c2] W fun e w' => e = .returned (.int .i64 (cmpL l1 l2)) ∧ ∃ n, w' = W.drewN n) := fun W h1 h2 => q2o _ _ _ _ _ _ W h1 h2;have hz : 0 ≤ cmpL l1 l2 := cmpL_ge k1 k2 hv;generalize cmpL l1 l2 = z at *;have hne1 : ((l2.length : Int) == 1) = false := (by rw [beq_eq_false_iff_ne]; omega);clear hs1 hs2 k1 k2 hv hL hML hM hN1 hi hz0 hz1 hz2 hgx hts hts0 hts1;go_enter Tryz.func197, Tryz.ntmps197
 go_wp2_with fail
 refine (Hc.out w Hs1.out Hs2.out).mono ?_;rintro e w1 ⟨rfl, nd, rfl⟩;have Hb : Hid (Below w.heap.size w (w.drewN nd)) := below_drewN (Below.refl _ _) _;generalize w.drewN nd = w1 at *;obtain ⟨b2, o2, rfl, hx⟩ := (Hs2.out.below Hb.out).rd.at_ (k := l2.length - 1) (by omega);rw [Hx.out] at hx;have HV := lh hV;have HU := lh hU;clear hV hU;go_wp2
 go_loopw [7] (fun ss wr => ∃ t : Nat, ss = .int .u64 t ∧ t ≤ s ∧ w1 = wr) (fun ss _ => s - (intOf ss).toNat)
 case atStart => exact ⟨0, rfl, Nat.zero_le _, rfl⟩
 case round =>
 obtain ⟨t, rfl, ht, rfl⟩ := hrel;by_cases hlt : t < s
 ·have hp := Hsh.out t hlt;have hw := wrap_shl32 x t (by omega);generalize x * 2 ^ t = p at *;have hd : decide ((p : Int) < 2147483648) = true := decide_eq_true (by omega);go_wp2
  go_roundw
  case rel => exact ⟨t + 1, by go_num, by omega, by simp⟩
  case measure => simp [intOf] <;> omega
 obtain rfl : t = s := by omega
 have hp := Hs0.out;have hw := wrap_shl32 x t Hs1t.out;generalize x * 2 ^ t = p at *;have hd : decide ((p : Int) < 2147483648) = false := decide_eq_false (by omega);clear ht hlt;go_wp2_with fail
 refine (HV.out _ Hb.out).mono ?_;clear HV hw hp hd;rintro e wV ⟨gV, cV, rV, rfl, hgV, hbxV, hlV, hvV, hlenV, hcV, hbV⟩;have HbxV := lh hbxV;have HlV := lh hlV;have HvV := lh hvV;have HlenV := lh hlenV;have HbV := lh hbV;have HB1 := lh (q0a Hb.out hbV);have hcV2 : l2.length ≤ cV := Nat.le_trans hn1N hcV;clear hbxV hlV hvV hlenV hbV;go_wp2_with fail
 refine (HU.out _ HB1.out).mono ?_;clear HU;rintro e wU ⟨gU, cU, rU, rfl, hgU, hbxU, hlU, hvU, hlenU, hcU, hbU⟩;have HbxU := lh hbxU;have HlU := lh hlU;have HvU := lh hvU;have HlenU := lh hlenU;have HbU := lh hbU;have HB2 := lh (q0a HB1.out hbU);clear hbxU hlU hvU hlenU hbU;have hgVU : gV < gU := Nat.lt_of_lt_of_le HbxV.out.lt hgU;have hgV0 : w.heap.size ≤ gV := (by have h1 := Hb.out.size; omega);have hvlt : Hid (val rV < 4294967296 ^ l2.length) := (by unfold Hid; rw [HvV.out]; exact Hnorm.out);have Hvv : Hid (val (rV.take l2.length) = val l2 * 2 ^ t) := (val_take_of_lt hvlt.out).1.trans HvV.out;have HlimV : Hid (Lim (rV.take l2.length)) := q1x HlV.out _;have HlenT : Hid ((rV.take l2.length).length = l2.length) := (by unfold Hid; rw [List.length_take, HlenV.out]; omega);have HSV : Hid (Sl wU (some ⟨gV, 0, none⟩) (rV.take l2.length) cV) := (HbxV.out.kept HbU.out).slTake HlV.out (by rw [HlenV.out]; exact hn1N) (by omega) (by omega);have Hvtop : Hid (0 < (rV.take l2.length)[l2.length - 1]?.getD 0) := norm_top (by omega) HlenT.out HlimV.out Hct.out (by rw [Hvv.out]; exact Nat.le_mul_of_pos_right _ (Nat.pow_pos (by omega)));generalize rV.take l2.length = v at *;have Hst := lh (Hstart.out rU L HvU.out (by rw [← HML.out]; exact HM.out));clear hvlt HbxV HlV HvV HlenV HbV HB1 Hstart Hsh Hs0 Hs1t;have hgUs := HbxU.out.lt;have hzU : w.heap.size ≤ wU.heap.size := HB2.out.size;go_wp2
 go_loopw [11] (fun jv wr => ∃ (m : Nat) (Q U : List Nat), jv = .int .i64 ((m : Int) - 1) ∧ m ≤ L ∧ Q.length = L ∧ Lim Q ∧ Bx wr wU.heap.size Q ∧ U.length = M ∧ Lim U ∧ Bx wr gU U ∧ Sl wr (some ⟨gV, 0, none⟩) v cV ∧
   val (Q.drop m) * val v + val (U.drop m) = val (rU.drop m) ∧ val (U.drop m) < val v ∧ U.take m = rU.take m ∧ Below w.heap.size w wr) (fun jv _ => (intOf jv + 1).toNat)
 case atStart => exact ⟨L, List.replicate L 0, rU, rfl, Nat.le_refl _, by simp, q0n _, (Blk.zrow wU _ L).bx, HlenU.out, HlU.out, HbxU.out.alloc _, HSV.out.alloc _, by rw [List.drop_of_length_le (by simp)]; simp [val], by rw [Hvv.out]; exact Hst.out, rfl, HB2.out.alloc HB2.out.size _⟩
 case round =>
  obtain ⟨m, Q, U, rfl, hmL, hQl, hQlim, hQb, hUl, hUlim, hUb, hSv, hinv, hlt, htk, hb⟩ := hrel;have HQl := lh hQl;have HQlim := lh hQlim;have HQb := lh hQb;have HUl := lh hUl;have HUlim := lh hUlim;have HUb := lh hUb;have HSv := lh hSv;have Hinv := lh hinv;have Hlt := lh hlt;have Htk := lh htk;have Hbb := lh hb;clear hQl hQlim hQb hUl hUlim hUb hSv hinv hlt htk hb
  cases m with
  | zero =>
   have Hd : Hid (val Q = val l1 / val l2 ∧ val U / 2 ^ t = val l1 % val l2) := by
    have h1 := Hinv.out;have h2 := Hlt.out;simp only [List.drop_zero] at h1 h2;rw [HvU.out, Hvv.out] at h1;rw [Hvv.out] at h2;exact Hdone.out _ _ h1 h2
   have Hlow : Hid (val (U.take l2.length) = val U) := by
    have h2 := Hlt.out;rw [List.drop_zero, Hvv.out] at h2;exact (val_take_of_lt (Nat.lt_trans h2 Hnorm.out)).1
   have HRl : Hid ((U.take l2.length).length = l2.length) := (by unfold Hid; rw [List.length_take, HUl.out]; omega);have HRlim : Hid (Lim (U.take l2.length)) := q1x HUlim.out _;have HRg : Hid (∀ k, k < l2.length → (U.take l2.length)[k]?.getD 0 = U[k]?.getD 0) := fun k hk => by rw [List.getElem?_take_of_lt hk]
   have Hsq : Hid (Sl wr (some ⟨wU.heap.size, 0, none⟩) Q L) := ⟨HQb.out.rd0, HQlim.out, by rw [HQl.out]; exact Nat.le_refl _, by rw [HQl.out]; omega⟩;generalize U.take l2.length = R at *;obtain ⟨i0, hi, hz0, hz1, hz2⟩ := info_parts q2q;have hncU : l2.length ≤ cU := (by omega);generalize hwb : wr = wB at *;clear hwb;go_wp2
   go_loopw [13, 14, 15] (fun os is _ wr => ∃ (k c : Nat) (A : Option Addr) (o : List Nat), is = .int .i64 k ∧ os = .slice A o.length c ∧ k ≤ l2.length ∧ o.length = k ∧ Lim o ∧ Ow wr wB.heap.size 187 (.slice A o.length c) o ∧ val o + 4294967296 ^ k * (val (R.drop k) / 2 ^ t) = val R / 2 ^ t ∧ Below wB.heap.size wB wr) (fun _ is _ _ => l2.length - (intOf is).toNat)
   case atStart => exact ⟨0, 0, none, [], rfl, rfl, Nat.zero_le _, rfl, lim_nil, Ow.nil0 _ _ _, by simp [val], Below.refl _ _⟩
   case round =>
    obtain ⟨k, c, A, o, rfl, rfl, hk, hol, holim, hown, hsum, hbB⟩ := hrel;have Hol := lh hol;have Hlim := lh holim;have Hown := lh hown;have Hsum := lh hsum;have HbB := lh hbB;have hbs := hbB.size;have Hn1 : Hid (o.length + 1 ≤ 35184372088832) := (by unfold Hid; omega);clear hol holim hown hsum hbB;by_cases hlt : k < l2.length
    ·have hx : wr.cell? ⟨gU, k, none⟩ = some (.int .u32 (R[k]?.getD 0 : Nat)) := (by rw [HRg.out k hlt]; exact (HUb.out.kept HbB.out).cell (by rw [HUl.out]; omega));have hx2 := q0h HRlim.out k;have Hst := lh (shr_step HRlim.out hs32 (by rw [HRl.out]; exact hlt) Hol.out Hsum.out);by_cases hlt2 : k + 1 < l2.length
     ·have hy : wr.cell? ⟨gU, k + 1, none⟩ = some (.int .u32 (R[k + 1]?.getD 0 : Nat)) := (by rw [HRg.out _ hlt2]; exact (HUb.out.kept HbB.out).cell (by rw [HUl.out]; omega));have hy2 := q0h HRlim.out (k + 1);generalize R[k]?.getD 0 = x1 at *;generalize R[k + 1]?.getD 0 = y1 at *;obtain ⟨N, hN⟩ : ∃ N, N = x1 + y1 * 4294967296 := ⟨_, rfl⟩;rw [← hN] at Hst;have hNz : (x1 : Int) + (y1 : Int) * 4294967296 = (N : Int) := (by omega);have hN2 : N < 18446744073709551616 := (by omega);have hNd := div_pow N t;generalize hD : N / 2 ^ t = D at *;have hD2 : D < 18446744073709551616 := (by rw [← hD]; exact Nat.lt_of_le_of_lt (Nat.div_le_self _ _) hN2);clear hN hD;go_wp2_with (at_builtin; refine q1c rfl _ _ 63 rfl wB.heap.size 187 i0 Tryz.underlying63 hi hz0 hz1 hz2 (.slice A o.length c) o rfl (Hown.out.alloc _) (some ⟨wr.heap.size, 0, none⟩) 1 [D % 4294967296] 1 rfl rfl (Rd.onev _ (by omega) _) Hn1.out (by simp; omega) ?_; intro A' c' w1 hown' hgrow _; have Hown' := lh hown'; have Hb' := lh (q1l HbB.out Hown.out hgrow); clear hown' hgrow)
      go_roundw
      case rel =>
       repeat apply Exists.intro
       exact ⟨⟨k + 1, c', A', o ++ [D % 4294967296], by go_num, by rw [List.length_append]; rfl, by omega, by rw [List.length_append, Hol.out]; rfl, q1v Hlim.out (Nat.mod_lt _ (by omega)), Hown'.out, Hst.out, Hb'.out⟩, rfl⟩
      case measure => simp [intOf] <;> omega
     ·have hz2' : R[k + 1]?.getD 0 = 0 := getD_end (by rw [HRl.out]; omega);rw [hz2', Nat.zero_mul, Nat.add_zero] at Hst;clear hz2';generalize R[k]?.getD 0 = N at *;have hN2 : N < 18446744073709551616 := (by omega);have hNd := div_pow N t;generalize hD : N / 2 ^ t = D at *;have hD2 : D < 18446744073709551616 := (by rw [← hD]; exact Nat.lt_of_le_of_lt (Nat.div_le_self _ _) hN2);clear hD;go_wp2_with (at_builtin; refine q1c rfl _ _ 63 rfl wB.heap.size 187 i0 Tryz.underlying63 hi hz0 hz1 hz2 (.slice A o.length c) o rfl (Hown.out.alloc _) (some ⟨wr.heap.size, 0, none⟩) 1 [D % 4294967296] 1 rfl rfl (Rd.onev _ (by omega) _) Hn1.out (by simp; omega) ?_; intro A' c' w1 hown' hgrow _; have Hown' := lh hown'; have Hb' := lh (q1l HbB.out Hown.out hgrow); clear hown' hgrow)
      go_roundw
      case rel =>
       repeat apply Exists.intro
       exact ⟨⟨k + 1, c', A', o ++ [D % 4294967296], by go_num, by rw [List.length_append]; rfl, by omega, by rw [List.length_append, Hol.out]; rfl, q1v Hlim.out (Nat.mod_lt _ (by omega)), Hown'.out, Hst.out, Hb'.out⟩, rfl⟩
      case measure => simp [intOf] <;> omega
    ·obtain rfl : k = l2.length := by omega
     have Hvo : Hid (val o = val l1 % val l2) := by
      have h := Hsum.out;have e : R.drop l2.length = [] := List.drop_eq_nil_of_le (by rw [HRl.out]; exact Nat.le_refl _);rw [e, Hlow.out, Hd.out.2] at h;unfold Hid;simpa [val] using h
     have Hso : Hid (Sl wr A o c) := Hown.out.sl Hlim.out (by have := Hol.out; omega);have Hsq4 : Hid (Sl wr (some ⟨wU.heap.size, 0, none⟩) Q L) := Hsq.out.below HbB.out;have Hb4 : Hid (Below w.heap.size w wr) := q0a Hbb.out HbB.out;have htq := q2h (some ⟨wU.heap.size, 0, none⟩) Q L wr Hsq4.out;rw [HQl.out, Hd.out.1] at htq;clear Hn1 hbs hlt;go_wp2_with fail
     refine htq.mono ?_;rintro e w5 ⟨A5, c5, rfl, hs5, hb5⟩;clear htq;have Hs5 := lh hs5;have Hb5 := lh (q0a Hb4.out hb5);have hto := q2h A o c w5 (Hso.out.below hb5);rw [Hvo.out] at hto;clear hs5 hb5;go_wp2_with fail
     refine hto.mono ?_;rintro e w6 ⟨A6, c6, rfl, hs6, hb6⟩;clear hto;have Hs6 := lh hs6;have Hs56 := lh (Hs5.out.below hb6);have Hb6 := lh (q0a Hb5.out hb6);clear hs6 hb6;go_wp2
     go_ret2
     exact ⟨A5, c5, A6, c6, rfl, Hs56.out, Hs6.out, Hb6.out⟩
  | succ m =>
   have hmU : m < M := (by omega);obtain ⟨hsg1, hsg2, hsg3⟩ := div_seg (u := U) (v := v) (j := m) (n := l2.length) HUlim.out (by rw [HUl.out]; exact hmU) (by rw [Hvv.out]; exact Hnorm.out) Hlt.out;have hstep := digit_any gU m l2.length (cU - m) U v (some ⟨gV, 0, none⟩) cV wr HUb.out HUlim.out HSv.out (by rintro ad ⟨⟩; simp; omega) HlenT.out hn2 (by omega) (by rw [HUl.out]; omega) (by omega) Hvtop.out (by rw [hsg1]; exact hsg2);unfold StepRes at hstep;rw [HlenT.out, hsg1] at hstep;have e1 : m + l2.length + 1 - m = l2.length + 1 := (by omega);have Hsg2 := lh hsg2;have Hsg3 := lh hsg3;have Hstep := lh hstep;have hne : (m = cU) = False := (by simp; omega);have hmc : m + l2.length + 1 ≤ cU := (by omega);have hgU0 : w.heap.size ≤ gU := (by omega);have Hvp : Hid (0 < val v) := (by unfold Hid; have := Hlt.out; omega);clear hsg1 hsg2 hsg3 hstep;have Hdv : Hid (val (U.drop m) / val v < 4294967296) := digit_lt Hsg2.out;go_wp2_with fail
   refine Hstep.out.mono ?_;rintro e w3 ⟨sg, rfl, hsl, hslim, hsv, hbx, hbut⟩;have HQ3 : Hid (Bx w3 wU.heap.size Q) := HQb.out.but hbut (by omega);have HV3 : Hid (Sl w3 (some ⟨gV, 0, none⟩) v cV) := HSv.out.but (by rintro ad ⟨⟩; simp; omega) hbut;have HB3 : Hid (Below w.heap.size w w3) := But.below' Hbb.out hbut hgU0;have HU3 := lh hbx;have Hsl := lh hsl;have Hslim := lh hslim;have Hrd := lh (div_round (u := U) (u0 := rU) (q := Q) (s := sg) (V := val v) (d := val (U.drop m) / val v) (by rw [HUl.out]; exact hmU) (by rw [HUl.out]; exact HlenU.out) (by rw [HQl.out]; omega) Htk.out (by rw [hsl]; exact Hsg3.out) Hinv.out (by rw [hsv, Nat.mul_comm]; exact Nat.div_add_mod _ _));have Hsv : Hid (val sg < val v) := (by unfold Hid; rw [hsv]; exact Nat.mod_lt _ Hvp.out);have hcell : w3.cell? ⟨wU.heap.size, m, none⟩ = some (.int .u32 (Q[m]?.getD 0 : Nat)) := HQ3.out.cell (by rw [HQl.out]; omega);have hfr : w3.frozen? ⟨wU.heap.size, m, none⟩ = false := HQ3.out.frozen m;clear hsl hslim hsv hbx hbut Hstep;generalize hdg : val (U.drop m) / val v = dg at *;clear hdg;go_wp2
   go_roundw
   case rel =>
    refine ⟨m, Q.set m dg, seg U m sg, by go_num, by omega, by rw [List.length_set]; exact HQl.out, q1e HQlim.out Hdv.out, HQ3.out.set rfl (by rw [HQl.out]; omega), by rw [seg_length (by rw [Hsl.out, HUl.out]; omega)]; exact HUl.out, q2p (q1x HUlim.out _) (q2p Hslim.out (lim_drop HUlim.out _)), HU3.out.setFar (by simp; omega) _, ?_, Hrd.out.1, ?_, Hrd.out.2.2, HB3.out.setCell (p := ⟨wU.heap.size, m, none⟩) hzU _⟩
    ·refine ⟨fun hl => ?_, HV3.out.lim, HV3.out.le, HV3.out.len⟩;obtain ⟨b, o, e, hc⟩ := HV3.out.rd hl;cases e
     exact ⟨gV, 0, rfl, fun i hi => by rw [World.cell?_setCell_other _ _ _ _ (by simp <;> omega)]; exact hc i hi⟩
    ·have h := Hrd.out.2.1;unfold seg;rw [h]; exact Hsv.out
   case measure => simp [intOf]
end Go.Proofs.YtlekjkljajeodaaGreat
namespace Go.Proofs.YtlekjkljajeodaaGreat
open Lib renaming hid → lh
theorem over_any (A1 A2 : Option Addr) (l1 l2 : List Nat) (c1 c2 : Nat) (w : World) (hs1 : Sl w A1 l1 c1) (hs2 : Sl w A2 l2 c2) (k1 : Canon l1) (k2 : Canon l2) (hne : l2 ≠ []) (hlen : l1.length ≤ 100000) :
  Calls Tryz.prog 197 #[.slice A1 l1.length c1, .slice A2 l2.length c2] w (LRes2 (q0e (val l1 / val l2)) (q0e (val l1 % val l2)) w) := by
 by_cases hv : val l1 < val l2
 ·exact over_small A1 A2 l1 l2 c1 c2 w hs1 hs2 k1 k2 hv
 ·match l2, hne with
  | [d], _ => exact over_one A1 A2 l1 d c1 c2 w hs1 hs2 k1 k2 (by omega) hlen
  | a :: b :: l, _ => exact over_long A1 A2 l1 (a :: b :: l) c1 c2 w hs1 hs2 k1 k2 (by omega) (by simp) hlen
end Go.Proofs.YtlekjkljajeodaaGreat
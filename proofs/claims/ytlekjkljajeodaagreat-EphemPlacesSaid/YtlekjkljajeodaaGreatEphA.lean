import Derived.Test.YtlekjkljajeodaaGreatMg9
import Derived.Test.YtlekjkljajeodaaGreatEphCk
import Derived.Test.YtlekjkljajeodaaGreatMg7
set_option maxHeartbeats 8000000
set_option maxRecDepth 100000
namespace Go.Proofs.YtlekjkljajeodaaGreat
open Lib renaming hid → lh
open Go.RowKit Go.Shelf
attribute [local go_sem ↓] Go.wp_at_zero Go.wp_at_succ
attribute [local go_sem] Oper.semAt_some
def zB : BG := ⟨[], 0, 0, none, [], 0⟩
def zS : SG := ⟨0, 0, none, [], 0, none, [], 0, none, [], 0⟩
noncomputable def getV (bs : List BG) (i : Int) : BG := if hasE bs i = 0 then (getB bs i).getD zB else zB
theorem getV_err {bs : List BG} {i : Int} (h : hasE bs i ≠ 0) : getV bs i = zB := if_neg h
theorem getV_ok {bs : List BG} {i : Int} (h : hasE bs i = 0) (h2 : 0 ≤ i ∧ i < bs.length) : getV bs i = bs[i.toNat]'(by omega) := by
 unfold getV; rw [if_pos h, getB_some h2]; rfl
theorem hasE_bad {bs : List BG} {i : Int} (h : chkE bs ≠ 0) : hasE bs i = chkE bs := if_neg h
theorem hasE_in {bs : List BG} {i : Int} (h : chkE bs = 0) (h2 : 0 ≤ i ∧ i < bs.length) : hasE bs i = 0 := by unfold hasE; rw [if_pos h, if_pos h2]
theorem hasE_out {bs : List BG} {i : Int} (h : chkE bs = 0) (h2 : ¬ (0 ≤ i ∧ i < bs.length)) : hasE bs i = 6 := by unfold hasE; rw [if_pos h, if_neg h2]
theorem hasE_zero {bs : List BG} {i : Int} (h : hasE bs i = 0) : chkE bs = 0 ∧ 0 ≤ i ∧ i < bs.length := by
 unfold hasE at h;split at h
 ·split at h
  ·rename_i h1 h2; exact ⟨h1, h2⟩
  ·omega
 ·omega
theorem OkB.z (w : World) (B : Nat) : OkB w B zB := ⟨⟨RdV.nil _ _ _, (fun s h => by cases h), Nat.zero_le _, Nat.zero_le _⟩, by simp [zB], by simp [zB], by simp [zB], by simp [zB], by simp [zB]⟩
theorem OkB.get {w : World} {B c : Nat} {A : Option Addr} {bs : List BG} (h : SlB w B A bs c) (i : Int) : OkB w B (getV bs i) := by
 unfold getV;split
 ·cases hb : getB bs i with
  | none => exact OkB.z w B
  | some b => exact h.all b (getB_mem hb)
 ·exact OkB.z w B
theorem eget_any (bs : List BG) (A : Option Addr) (c B : Nat) (i : Int) (w : World) (hs : SlB w B A bs c) :
  Calls Tryz.prog 64 #[.agg #[.slice A bs.length c], .int .i64 i] w fun e w' => e = .returned (.tuple #[.agg #[.string ⟨(getV bs i).nm.toArray⟩, .int .i64 (getV bs i).gm, .int .i64 (getV bs i).rd, .slice (getV bs i).A (getV bs i).ss.length (getV bs i).c], .int .i64 (hasE bs i)]) ∧ Below w.heap.size w w' := by
 have hlen := hs.len;have S := lh hs;clear hs;go_enter Tryz.func64, Tryz.ntmps64
 go_wp2_with (fail)
 generalize hwz : (w.alloc (.cells #[.slice A bs.length c] 38)).alloc (.cells #[.string ⟨#[]⟩, .int .i64 0, .int .i64 0, .slice none 0 0] 56) = wz at *;have KE : Hid (BlkV wz w.heap.size 38 #[.slice A bs.length c]) := (by rw [← hwz]; exact (BlkV.fresh rfl _ _).alloc _);have KO : Hid (BlkV wz (w.heap.size + 1) 56 #[.string ⟨#[]⟩, .int .i64 0, .int .i64 0, .slice none 0 0]) := (by rw [← hwz]; exact BlkV.fresh (by simp) _ _);have HB : Hid (Below w.heap.size w wz) := (by rw [← hwz]; exact q0a (blw1 _ _) (blw1 _ _));clear hwz;refine (echeck_any bs A c B wz (S.out.below HB.out)).mono ?_;rintro e w1 ⟨rfl, hb⟩;replace KE := lh (KE.out.keep hb);replace KO := lh (KO.out.keep hb);replace HB := lh (q0a HB.out hb);clear hb;have ke0 := KE.out.at_ 0 rfl;have ko0 := KO.out.at_ 0 rfl;have ko1 := KO.out.at_ 1 rfl;have ko2 := KO.out.at_ 2 rfl;have ko3 := KO.out.at_ 3 rfl;have fo0 := KO.out.frozen 0;have fo1 := KO.out.frozen 1;have fo2 := KO.out.frozen 2;have fo3 := KO.out.frozen 3;have hlo := KO.out.lt;by_cases h0 : chkE bs = 0
 ·rw [h0];by_cases hn : i < 0
  ·have t1 : decide (i < 0) = true := decide_eq_true hn;have E1 : Hid (hasE bs i = 6) := hasE_out h0 (by omega);have E2 : Hid (getV bs i = zB) := getV_err (by rw [E1.out]; decide);clear hn h0;go_wp2
   exact bodyPost_ret (v := .tuple #[.agg #[.string ⟨#[]⟩, .int .i64 0, .int .i64 0, .slice none 0 0], .int .i64 6]) (by simp [results, Tryz.results64, go_sem, ko0, ko1, ko2, ko3]) rfl ⟨by rw [E1.out, E2.out]; rfl, q0f HB.out (Nat.le_succ _) _ _ _ _⟩
  ·have t1 : decide (i < 0) = false := decide_eq_false hn;by_cases hg : (bs.length : Int) ≤ i
   ·have t2 : decide ((bs.length : Int) ≤ i) = true := decide_eq_true hg;have E1 : Hid (hasE bs i = 6) := hasE_out h0 (by omega);have E2 : Hid (getV bs i = zB) := getV_err (by rw [E1.out]; decide);clear hn h0 hg;go_wp2
    exact bodyPost_ret (v := .tuple #[.agg #[.string ⟨#[]⟩, .int .i64 0, .int .i64 0, .slice none 0 0], .int .i64 6]) (by simp [results, Tryz.results64, go_sem, ko0, ko1, ko2, ko3]) rfl ⟨by rw [E1.out, E2.out]; rfl, q0f HB.out (Nat.le_succ _) _ _ _ _⟩
   ·have t2 : decide ((bs.length : Int) ≤ i) = false := decide_eq_false hg;obtain ⟨k, rfl⟩ : ∃ k : Nat, i = k := ⟨i.toNat, by omega⟩;have hk : k < bs.length := (by omega);have E1 : Hid (hasE bs k = 0) := hasE_in h0 (by omega);have E2 : Hid (getV bs k = bs[k]'hk) := getV_ok E1.out (by omega);clear h0 hn hg;obtain ⟨b, o, rfl, -, q0, q1, q2, q3, -⟩ := (S.out.below HB.out).at_ hk;clear S;generalize bs[k]'hk = y at *;go_wp2
    exact bodyPost_ret (v := .tuple #[.agg #[.string ⟨y.nm.toArray⟩, .int .i64 y.gm, .int .i64 y.rd, .slice y.A y.ss.length y.c], .int .i64 0]) (by simp [results, Tryz.results64, go_sem, ko0, ko1, ko2, ko3]) rfl ⟨by rw [E1.out, E2.out], q0f HB.out (Nat.le_succ _) _ _ _ _⟩
 ·have E1 : Hid (hasE bs i = chkE bs) := hasE_bad h0;have E2 : Hid (getV bs i = zB) := getV_err (by rw [E1.out]; exact h0);generalize chkE bs = x at *;have t0 : (x != 0) = true := bne_iff_ne.2 h0;clear S;go_wp2
  exact bodyPost_ret (v := .tuple #[.agg #[.string ⟨#[]⟩, .int .i64 0, .int .i64 0, .slice none 0 0], .int .i64 x]) (by simp [results, Tryz.results64, go_sem, ko0, ko1, ko2, ko3]) rfl ⟨by rw [E1.out, E2.out]; rfl, q0f HB.out (Nat.le_succ _) _ _ _ _⟩
def encG (f t : Int) (s : SG) : Array Value := #[.agg #[.int .i64 s.F, .int .i64 s.T, .slice s.A0 s.l0.length s.c0, .slice s.A1 s.l1.length s.c1, .slice s.A2 s.l2.length s.c2], .agg #[.int .i64 (max s.F f), .int .i64 (min s.T t)]]
def inR (f t : Int) (s : SG) : Bool := decide (s.F ≤ t) && decide (f ≤ s.T)
theorem filt_snoc {p : SG → Bool} {ss : List SG} {k : Nat} (hk : k < ss.length) (h : p (ss[k]'hk) = true) : (ss.take (k + 1)).filter p = (ss.take k).filter p ++ [ss[k]'hk] := by
 rw [← List.take_append_getElem hk, List.filter_append]; simp [h]
theorem filt_skip {p : SG → Bool} {ss : List SG} {k : Nat} (hk : k < ss.length) (h : p (ss[k]'hk) = false) : (ss.take (k + 1)).filter p = (ss.take k).filter p := by
 rw [← List.take_append_getElem hk, List.filter_append]; simp [h]
theorem filt_rest {p : SG → Bool} {ss : List SG} (k : Nat) : ∃ rest, (ss.take k).filter p ++ rest = ss.filter p := ⟨(ss.drop k).filter p, by rw [← List.filter_append, List.take_append_drop]⟩
theorem filt_le (p : SG → Bool) (ss : List SG) (k : Nat) : ((ss.take k).filter p).length ≤ k := by
 have h1 := List.length_filter_le p (ss.take k);rw [List.length_take] at h1;omega
theorem during_in (F : Fence) (n : Nat) (hf : F.fn 65) (hro : F.round = none) (b : BG) (f t : Int) (w : World) :
  CallsIn F n Tryz.prog 65 #[.agg #[.string ⟨b.nm.toArray⟩, .int .i64 b.gm, .int .i64 b.rd, .slice b.A b.ss.length b.c], .int .i64 f, .int .i64 t] w fun e w' => e = .returned (.func (.func 120) #[] #[.pointer (some ⟨w.heap.size, 0, none⟩), .pointer (some ⟨w.heap.size + 2, 0, none⟩), .pointer (some ⟨w.heap.size + 1, 0, none⟩)]) ∧ w' = ((w.alloc (.cells #[.string ⟨b.nm.toArray⟩, .int .i64 b.gm, .int .i64 b.rd, .slice b.A b.ss.length b.c] 56)).alloc (.cells #[.int .i64 f] 2)).alloc (.cells #[.int .i64 t] 2) := by
 refine callsIn_of_wp Tryz.func65 rfl hf ?_ hro;simp only [Tryz.ntmps65, List.size_toArray, List.length_cons, List.length_nil, Nat.reduceAdd, Nat.reduceSub, Array.replicate_succ, Array.replicate_zero, List.push_toArray, List.append_toArray, List.nil_append, List.cons_append];gi_wp2
 go_ret
 exact ⟨rfl, rfl⟩
theorem during1_in (F : Fence) (n : Nat) (hf : F.fn 120) (hro : F.round = none) (hn : 1 ≤ n) (g1 g2 g3 : Nat) (b : BG) (f t : Int) (B : Nat) (w : World) (hlen : b.ss.length ≤ 4398046511104)
  (Kp : World → World → Prop) (Inv : World → Prop) (hI0 : ∀ W, Below w.heap.size w W → Inv W) (hIK : ∀ W W', Inv W → Kp W W' → Inv W') (hIA : ∀ W o, Inv W → Inv (W.alloc o))
  (hIr : ∀ W, Inv W → BlkV W g1 56 #[.string ⟨b.nm.toArray⟩, .int .i64 b.gm, .int .i64 b.rd, .slice b.A b.ss.length b.c] ∧ W.cell? ⟨g2, 0, none⟩ = some (.int .i64 t) ∧ W.cell? ⟨g3, 0, none⟩ = some (.int .i64 f) ∧ SlS W B b.A b.ss b.c) :
  SeqStopsK F n Tryz.prog 120 #[.pointer (some ⟨g1, 0, none⟩), .pointer (some ⟨g2, 0, none⟩), .pointer (some ⟨g3, 0, none⟩)] (encG f t) Kp (fun ys => ys = b.ss.filter (inR f t)) (fun pre => ∃ rest, pre ++ rest = b.ss.filter (inR f t)) b.ss.length w := fun lp J Jx W hW hAJ _ hY h0 => by
 have hc1 := (hIr W (hI0 W hW)).1.at_ 3 rfl;have HIA := lh hIA;have HAJ := lh hAJ;clear hIA hAJ;obtain ⟨bA, hbA⟩ : ∃ a, b.A = a := ⟨_, rfl⟩;rw [hbA] at hc1 hIr;refine callsIn_of_wp Tryz.func120 rfl hf ?_ hro;simp only [Tryz.ntmps120, List.size_toArray, List.length_cons, List.length_nil, Nat.reduceAdd, Nat.reduceSub, Array.replicate_succ, Array.replicate_zero, List.push_toArray, List.append_toArray, List.nil_append, List.cons_append];gi_wp2
 gi_loopw [10] (fun i wr => ∃ k : Nat, k ≤ b.ss.length ∧ i = .int .i64 k ∧ J ((b.ss.take k).filter (inR f t)) wr ∧ Inv wr) (fun i _ => b.ss.length - (intOf i).toNat)
 case atStart => exact ⟨0, Nat.zero_le _, rfl, h0, hI0 W hW⟩
 case round =>
  obtain ⟨k, hk, rfl, hJ, hb⟩ := hrel;obtain ⟨hq1, hq2, hq3, hs2⟩ := hIr wr hb;have HQ1 := lh hq1;have HQ2 := lh hq2;have HQ3 := lh hq3;have HS := lh hs2;have HJ := lh hJ;have HI := lh hb;clear hq1 hq2 hq3 hs2 hJ hb;by_cases hlt : k < b.ss.length
  ·have tk : decide ((k : Int) < (b.ss.length : Int)) = true := decide_eq_true (by omega);obtain ⟨bb, o, rfl, -, p0, p1, p2, p3, p4, hok⟩ := HS.out.at_ hlt;have HIn : Hid (inR f t (b.ss[k]'hlt) = true → (b.ss.take (k + 1)).filter (inR f t) = (b.ss.take k).filter (inR f t) ++ [b.ss[k]'hlt]) := fun h => filt_snoc hlt h;have HSk : Hid (inR f t (b.ss[k]'hlt) = false → (b.ss.take (k + 1)).filter (inR f t) = (b.ss.take k).filter (inR f t)) := fun h => filt_skip hlt h;have HL := lh (filt_le (inR f t) b.ss k);have hIdef : ∀ s : SG, inR f t s = (decide (s.F ≤ t) && decide (f ≤ s.T)) := fun s => rfl;generalize b.ss[k]'hlt = s at *;have HJA : Hid (J ((b.ss.take k).filter (inR f t)) (wr.alloc (.cells #[.int .i64 s.F, .int .i64 s.T, .slice s.A0 s.l0.length s.c0, .slice s.A1 s.l1.length s.c1, .slice s.A2 s.l2.length s.c2] 59))) := HAJ.out _ _ _ none HJ.out (World.grownBy_alloc wr _ none) (fun r e => by cases e);have HIAx : Hid (Inv (wr.alloc (.cells #[.int .i64 s.F, .int .i64 s.T, .slice s.A0 s.l0.length s.c0, .slice s.A1 s.l1.length s.c1, .slice s.A2 s.l2.length s.c2] 59))) := HIA.out _ _ HI.out;have hy1 : W.heap.size ≤ W.heap.size := Nat.le_refl _
   cases hin : inR f t s with
   | false =>
    have HN := lh (HSk.out hin);rw [hIdef] at hin;clear hY HIn HSk hy1;by_cases h1 : s.F ≤ t
    ·have t1 : decide (s.F ≤ t) = true := decide_eq_true h1;have t2 : decide (f ≤ s.T) = false := (by rw [t1] at hin; simpa using hin);clear hin hIdef h1;have q2 := HQ2.out; have l2 := lt_of_cell (a := ⟨g2, 0, none⟩) q2;have q3 := HQ3.out; have l3 := lt_of_cell (a := ⟨g3, 0, none⟩) q3;gi_wp2
     refine ⟨fun _ h => (by cases h), ?_⟩;gi_wp2
     go_roundw
     case rel => exact ⟨k + 1, by omega, by go_num, by rw [HN.out]; exact HJA.out, HIAx.out⟩
     case measure => simp [intOf]; omega
    ·have t1 : decide (s.F ≤ t) = false := decide_eq_false h1;clear hin hIdef h1;have q2 := HQ2.out; have l2 := lt_of_cell (a := ⟨g2, 0, none⟩) q2;have q3 := HQ3.out; have l3 := lt_of_cell (a := ⟨g3, 0, none⟩) q3;gi_wp2
     refine ⟨fun _ h => (by cases h), ?_⟩;gi_wp2
     go_roundw
     case rel => exact ⟨k + 1, by omega, by go_num, by rw [HN.out]; exact HJA.out, HIAx.out⟩
     case measure => simp [intOf]; omega
   | true =>
    have HN := lh (HIn.out hin);rw [hIdef] at hin;simp only [Bool.and_eq_true, decide_eq_true_eq] at hin;have t1 : decide (s.F ≤ t) = true := decide_eq_true hin.1;have t2 : decide (f ≤ s.T) = true := decide_eq_true hin.2;have hpl : ((b.ss.take k).filter (inR f t)).length < b.ss.length := (by have := HL.out; omega);obtain ⟨fn, tmps, assign, body, hy, hR⟩ := hY _ s _ HJA.out hpl;clear hY HIn HSk hin hIdef hpl;have q2 := HQ2.out; have l2 := lt_of_cell (a := ⟨g2, 0, none⟩) q2;have q3 := HQ3.out; have l3 := lt_of_cell (a := ⟨g3, 0, none⟩) q3;dsimp only [encG] at hy hR;gi_wp2
    refine hR.mono ?_;rintro e W3 (⟨rfl, hJ3, hk3⟩ | ⟨rfl, hJx3⟩)
    ·gi_wp2
     go_roundw
     case rel => exact ⟨k + 1, by omega, by go_num, by rw [HN.out]; exact hJ3, hIK _ _ HIAx.out hk3⟩
     case measure => simp [intOf]; omega
    ·have HX := lh (filt_rest (p := inR f t) (ss := b.ss) (k + 1));rw [HN.out] at HX;gi_wp2
     refine bodyPost_ret (results_none rfl _ _ _) rfl ?_;exact ⟨⟨_, rfl⟩, .inr ⟨_, HX.out, hJx3⟩⟩
  ·obtain rfl : k = b.ss.length := by omega
   have tk : decide ((b.ss.length : Int) < (b.ss.length : Int)) = false := decide_eq_false (by omega);have HE : Hid (J (b.ss.filter (inR f t)) wr) := (by have := HJ.out; rwa [List.take_length] at this);gi_wp2
   go_end0
   exact ⟨⟨_, rfl⟩, .inl ⟨_, rfl, HE.out⟩⟩
end Go.Proofs.YtlekjkljajeodaaGreat
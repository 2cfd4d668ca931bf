import Derived.Test.YtgnjhlnolihgcaaGreatRegI
import Derived.Test.YtgnjhlnolihgcaaGreatMg1
set_option maxHeartbeats 8000000
set_option maxRecDepth 100000
namespace Go.Proofs.YtgnjhlnolihgcaaGreat
open Go.RowKit
attribute [local go_sem ↓] Go.wp_at_zero Go.wp_at_succ
theorem lvalid_any (f:FD) (B:Nat) (w:World) (ok:OkD w B f) :
  Calls Tryz.prog 26 #[.agg #[.int .i64 f.W,.int .i64 f.H,.slice f.A f.l.length f.c]] w fun e w'=>e=.returned (.bool (decide (f.l.length≤100) && decide (f.chk=0)))∧Below w.heap.size w w':=by
 have O:=Lib.hid ok;have hm:=ok.sl.len;have HB:Hid (Below w.heap.size w w):=Below.refl _ _;have hG:=Lib.hid (fun W=>cgreat1_any f hm W);have hC:=Lib.hid (fun W (h:SlI W B f.A f.l f.c)=>rccheck_any f.W f.H f.A f.l f.c B W h);have hcc:Hid (fchk f.W f.H f.l=f.chk):=rfl;clear ok;by_cases hg:100 < f.l.length
 ·have t1:decide (100 < f.l.length)=true:=decide_eq_true hg;have E:Hid ((decide (f.l.length≤100) && decide (f.chk=0))=false):=(by unfold Hid; rw [decide_eq_false (show ¬ f.l.length≤100 by omega)]; rfl);clear hg;go_enter Tryz.func26,Tryz.ntmps26
  go_wp2_with fail
  refine (hG.out _).mono ?_;rw [t1];rintro e w1 ⟨rfl,hb⟩;replace HB:=Lib.hid (q0a (q0a HB.out (blw1 _ _)) hb);clear hb;go_wp2
  go_ret
  exact ⟨by rw [E.out]; rfl,HB.out⟩
 ·have t1:decide (100 < f.l.length)=false:=decide_eq_false hg;rcases fchk_cases f.W f.H f.l with h0 | h0
  ·have E:Hid ((decide (f.l.length≤100) && decide (f.chk=0))=true):=(by unfold Hid; rw [decide_eq_true (show f.l.length≤100 by omega),← hcc.out,h0]; rfl);have C0:=Lib.hid h0;clear hg h0;go_enter Tryz.func26,Tryz.ntmps26
   go_wp2_with fail
   refine (hG.out _).mono ?_;rw [t1];rintro e w1 ⟨rfl,hb⟩;have K:Hid (BlkV w1 w.heap.size 53 #[.int .i64 f.W,.int .i64 f.H,.slice f.A f.l.length f.c]):=(BlkV.fresh rfl _ _).keep hb;replace O:=Lib.hid (O.out.below (q0a (blw1 _ _) hb));replace HB:=Lib.hid (q0a (q0a HB.out (blw1 _ _)) hb);clear hb;have q0:w1.cell? ⟨w.heap.size,0,none⟩=some (.int .i64 f.W):=K.out.at_ 0 rfl;have q1:w1.cell? ⟨w.heap.size,1,none⟩=some (.int .i64 f.H):=K.out.at_ 1 rfl;have q2:w1.cell? ⟨w.heap.size,2,none⟩=some (.slice f.A f.l.length f.c):=K.out.at_ 2 rfl;go_wp2_with fail
   refine (hC.out _ O.out.sl).mono ?_;rw [C0.out];rintro e w2 ⟨rfl,hb⟩;replace HB:=Lib.hid (q0a HB.out hb);clear hb q0 q1 q2;go_wp2
   go_ret
   exact ⟨by rw [E.out]; rfl,HB.out⟩
  ·have E:Hid ((decide (f.l.length≤100) && decide (f.chk=0))=false):=(by unfold Hid; rw [← hcc.out,h0]; simp);have C0:=Lib.hid h0;clear hg h0;go_enter Tryz.func26,Tryz.ntmps26
   go_wp2_with fail
   refine (hG.out _).mono ?_;rw [t1];rintro e w1 ⟨rfl,hb⟩;have K:Hid (BlkV w1 w.heap.size 53 #[.int .i64 f.W,.int .i64 f.H,.slice f.A f.l.length f.c]):=(BlkV.fresh rfl _ _).keep hb;replace O:=Lib.hid (O.out.below (q0a (blw1 _ _) hb));replace HB:=Lib.hid (q0a (q0a HB.out (blw1 _ _)) hb);clear hb;have q0:w1.cell? ⟨w.heap.size,0,none⟩=some (.int .i64 f.W):=K.out.at_ 0 rfl;have q1:w1.cell? ⟨w.heap.size,1,none⟩=some (.int .i64 f.H):=K.out.at_ 1 rfl;have q2:w1.cell? ⟨w.heap.size,2,none⟩=some (.slice f.A f.l.length f.c):=K.out.at_ 2 rfl;go_wp2_with fail
   refine (hC.out _ O.out.sl).mono ?_;rw [C0.out];rintro e w2 ⟨rfl,hb⟩;replace HB:=Lib.hid (q0a HB.out hb);clear hb q0 q1 q2;go_wp2
   go_ret
   exact ⟨by rw [E.out]; rfl,HB.out⟩
end Go.Proofs.YtgnjhlnolihgcaaGreat
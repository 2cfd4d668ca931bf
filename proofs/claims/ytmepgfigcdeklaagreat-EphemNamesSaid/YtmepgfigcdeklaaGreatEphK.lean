import Derived.Test.YtmepgfigcdeklaaGreatEph7
import Derived.Test.YtmepgfigcdeklaaGreatShelf
import Derived.Deep.LoopGhost
import Derived.Lib.OthersKept
set_option maxHeartbeats 8000000
set_option maxRecDepth 100000
namespace Go.Proofs.YtmepgfigcdeklaaGreat
open Go.RowKit Go.Lib
attribute [local go_sem ↓] Go.wp_at_zero Go.wp_at_succ
theorem nm_pays (w:World):PredAt Tryz.prog 90 #[] encR notNm w:=fun W r _=>by
  unfold FnGives notNm;by_cases h1:r < 97 <;> by_cases h2:122 < r <;> by_cases h3:r < 48 <;> by_cases h4:57 < r <;> by_cases h5:r=45
  all_goals first
    | (exfalso; omega)
    | (have z1:(r:Int) < 97 ↔ r < 97:=by omega
       have z2:(122:Int) < (r:Int) ↔ 122 < r:=(by omega);have z3:(r:Int) < 48 ↔ r < 48:=(by omega);have z4:(57:Int) < (r:Int) ↔ 57 < r:=(by omega);have z5:(r:Int)=45 ↔ r=45:=(by omega);go_enter Tryz.func90,Tryz.ntmps90
       go_wp2
       all_goals first | (exfalso; omega) | (go_ret; exact ⟨by simp [h1,h2,h3,h4,h5] <;> omega,0,rfl⟩))
theorem ename_any (nm:List UInt8) (hl:nm.length≤140737488355328) (w:World) :
    Calls Tryz.prog 40 #[.string ⟨nm.toArray⟩] w fun e w'=>e=.returned (.bool (nmB nm))∧Below w.heap.size w w':=by
  have hcf:=fun W=>Tryz.strings_ContainsFunc 90 #[] (enters_of Tryz.func90 (by kernel_rfl) rfl) notNm ⟨nm.toArray⟩ W (nm_pays W);rw [idx_nmB] at hcf;have Hcf:=Lib.hid hcf;clear hcf;rcases nm with _ | ⟨b,t⟩
  · go_enter Tryz.func40,Tryz.ntmps40
    go_wp2_with fail
    refine (Hcf.out _).mono ?_;rintro e w1 ⟨rfl,hb⟩;have HB:=Lib.hid hb;clear hb;go_wp2
    go_ret
    exact ⟨rfl,HB.out⟩
  · have HE:=Lib.hid (nmB_cons b t);have hget:(ByteArray.mk (b :: t).toArray)[0]'(by simp [ByteArray.size])=b:=rfl;have hsz:(ByteArray.mk (b :: t).toArray).size=t.length+1:=(by simp [ByteArray.size]);simp only [List.length_cons] at hl;generalize (b :: t).all letB=al at *;generalize hR:nmB (b :: t)=R at *;by_cases h24:t.length+1≤24
    · have t1:decide (((t.length+1:Nat):Int)≤24)=true:=decide_eq_true (by omega);have t1':decide (((t.length:Nat):Int)+1≤24)=true:=decide_eq_true (by omega)
      cases al with
      | false=>
        have E:Hid (R=false):=(by have:=HE.out; rw [decide_eq_true h24] at this; exact this);clear HE;go_enter Tryz.func40,Tryz.ntmps40
        go_wp2_with fail
        refine (Hcf.out _).mono ?_;rintro e w1 ⟨rfl,hb⟩;have HB:=Lib.hid hb;clear hb;go_wp2
        go_ret
        exact ⟨by rw [E.out]; rfl,HB.out⟩
      | true=>
        by_cases h97:97≤b.toNat
        · have t2:decide (97≤b.toNat)=true:=decide_eq_true h97;by_cases h122:b.toNat≤122
          · have t3:decide (b.toNat≤122)=true:=decide_eq_true h122;have E:Hid (R=true):=(by have:=HE.out; rw [decide_eq_true h24,t2,t3] at this; exact this);clear HE;go_enter Tryz.func40,Tryz.ntmps40
            go_wp2_with fail
            refine (Hcf.out _).mono ?_;rintro e w1 ⟨rfl,hb⟩;have HB:=Lib.hid hb;clear hb;go_wp2
            all_goals go_ret
            all_goals first | exact ⟨by rw [E.out]; rfl,HB.out⟩ | (exfalso; omega) | exact ⟨by rw [E.out]; show Ending.returned (.bool (decide ((b.toNat:Int)≤122)))=_; rw [decide_eq_true (by omega)],HB.out⟩ | exact ⟨by rw [E.out]; show Ending.returned (.bool (decide ((b.toNat:Int)≤122)))=_; rw [decide_eq_false (by omega)],HB.out⟩
          · have t3:decide (b.toNat≤122)=false:=decide_eq_false h122;have E:Hid (R=false):=(by have:=HE.out; rw [decide_eq_true h24,t2,t3] at this; exact this);clear HE;go_enter Tryz.func40,Tryz.ntmps40
            go_wp2_with fail
            refine (Hcf.out _).mono ?_;rintro e w1 ⟨rfl,hb⟩;have HB:=Lib.hid hb;clear hb;go_wp2
            all_goals go_ret
            all_goals first | exact ⟨by rw [E.out]; rfl,HB.out⟩ | (exfalso; omega) | exact ⟨by rw [E.out]; show Ending.returned (.bool (decide ((b.toNat:Int)≤122)))=_; rw [decide_eq_true (by omega)],HB.out⟩ | exact ⟨by rw [E.out]; show Ending.returned (.bool (decide ((b.toNat:Int)≤122)))=_; rw [decide_eq_false (by omega)],HB.out⟩
        · have t2:decide (97≤b.toNat)=false:=decide_eq_false h97;have E:Hid (R=false):=(by have:=HE.out; rw [decide_eq_true h24,t2] at this; exact this);clear HE;go_enter Tryz.func40,Tryz.ntmps40
          go_wp2_with fail
          refine (Hcf.out _).mono ?_;rintro e w1 ⟨rfl,hb⟩;have HB:=Lib.hid hb;clear hb;go_wp2
          all_goals go_ret
          all_goals first | exact ⟨by rw [E.out]; rfl,HB.out⟩ | (exfalso; omega) | exact ⟨by rw [E.out]; show Ending.returned (.bool (decide ((b.toNat:Int)≤122)))=_; rw [decide_eq_true (by omega)],HB.out⟩ | exact ⟨by rw [E.out]; show Ending.returned (.bool (decide ((b.toNat:Int)≤122)))=_; rw [decide_eq_false (by omega)],HB.out⟩
    · have t1:decide (((t.length+1:Nat):Int)≤24)=false:=decide_eq_false (by omega);have t1':decide (((t.length:Nat):Int)+1≤24)=false:=decide_eq_false (by omega);have E:Hid (R=false):=(by have:=HE.out; rw [decide_eq_false h24] at this; exact this);clear HE;go_enter Tryz.func40,Tryz.ntmps40
      go_wp2_with fail
      refine (Hcf.out _).mono ?_;rintro e w1 ⟨rfl,hb⟩;have HB:=Lib.hid hb;clear hb;go_wp2
      go_ret
      exact ⟨by rw [E.out]; rfl,HB.out⟩
end Go.Proofs.YtmepgfigcdeklaaGreat
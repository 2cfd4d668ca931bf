import Derived.Test.YtgnjhlnolihgcaaGreatW1
import Derived.Maps.Own
import Derived.Maps.Views
import Derived.Test.YtgnjhlnolihgcaaGreatEphC
import Derived.Test.YtgnjhlnolihgcaaGreatShelf
import Derived.Deep.LoopGhost
import Derived.Lib.OthersKept
set_option maxHeartbeats 8000000
set_option maxRecDepth 100000
namespace Go.Proofs.YtgnjhlnolihgcaaGreat
open Go.RowKit Go.Maps
theorem str_keyed:Keyed Tryz.prog 9:=string_keyed Tryz.underlying9
theorem zero_bool (w:World):(zeroValue 4).run Tryz.prog w=.ok (.bool false) w:=by kernel_rfl
theorem plainBool_inv {e:TypeId} (he:Tryz.prog.underlying e=some .bool) {v:Value} {z:DataW Unit × List MemPlace} (h:plainElem Tryz.prog e v=some z):∃ x,v=.bool x∧z=(.lit (.bool x),[]):=by
  unfold plainElem at h;rw [he] at h;cases v <;> simp at h
  exact ⟨_,rfl,h.symm⟩
def Seen (w:World) (b n:Nat) (f:List UInt8→Bool):Prop:=
  ∃ D:DataW Unit,w.ownsMap Tryz.prog 9 (plainElem Tryz.prog 4) b n D∧IsMap D∧∀ s:List UInt8,D.atKey (.string s) (.lit (.bool false))=.lit (.bool (f s))
theorem Seen.made (w:World):Seen (w.alloc (.map #[] 0)) w.heap.size 0 (fun _=>false):=
  ⟨.map [],World.ownsMap_made _ _ _ _,isMap_empty,fun _=>rfl⟩
section
variable {w w':World} {b n:Nat} {f:List UInt8→Bool}
theorem Seen.lt (h:Seen w b n f):b < w.heap.size:=by obtain ⟨D,h1,_⟩:=h; exact h1.lt
theorem Seen.keep (h:Seen w b n f) (hb:Below w.heap.size w w'):Seen w' b n f:=by
  have hl:=h.lt;obtain ⟨D,⟨es,clock,h1,r⟩,h2,h3⟩:=h;exact ⟨D,⟨es,clock,(hb.block b hl).trans h1,r⟩,h2,h3⟩
theorem Seen.cong (h:Seen w b n f) {g:List UInt8→Bool} (e:∀ s,f s=g s):Seen w b n g:=by
  obtain ⟨D,h1,h2,h3⟩:=h;exact ⟨D,h1,h2,fun s=>by rw [h3,e]⟩
theorem Seen.look (h:Seen w b n f) (s:List UInt8) (hs:s.length≤140737488355328):(Instr.lookup 255 (.map (some b)) (.string ⟨s.toArray⟩) false).run Tryz.prog w=.ok (.bool (f s)) w:=by
  obtain ⟨D,h1,h2,h3⟩:=h;have hk:keyOf Tryz.prog 9 (.string ⟨s.toArray⟩)=some (.string s):=WideMaps.keyOf_string_mk Tryz.underlying9 (by show s.toArray.size≤maxLen; simp; unfold maxLen; omega);obtain ⟨v,ps,hrun,hv⟩:=h1.lookup str_keyed Tryz.underlying255 (zero_bool w) (plainElem_bool Tryz.underlying4 false) hk;obtain ⟨x,rfl,hx⟩:=plainBool_inv Tryz.underlying4 hv;rw [h3 s] at hx;simp only [Prod.mk.injEq,DataW.lit.injEq,Lit.bool.injEq] at hx;rw [hrun,hx.1]
theorem Seen.store (h:Seen w b n f) (s:List UInt8) (hs:s.length≤140737488355328) (hn:n≤1000):∃ w',(Instr.mapUpdate 255 (.map (some b)) (.string ⟨s.toArray⟩) (.bool true)).run Tryz.prog w=.ok () w' ∧
    Seen w' b (n+1) (fun t=>f t || decide (s=t))∧w.grownBy w' (some b):=by
  obtain ⟨D,h1,h2,h3⟩:=h;have hk:keyOf Tryz.prog 9 (.string ⟨s.toArray⟩)=some (.string s):=WideMaps.keyOf_string_mk Tryz.underlying9 (by show s.toArray.size≤maxLen; simp; unfold maxLen; omega);obtain ⟨w',hrun,o,g⟩:=h1.update str_keyed Tryz.underlying255 (by unfold maxLen; omega) hk (plainElem_bool Tryz.underlying4 true);refine ⟨w',hrun,⟨_,o,h2.put _ _,fun t=>?_⟩,g⟩;by_cases e:t=s
  · subst e;rw [atKey_put_same h2 (show WideAt.IsKeyLit (.string t) from trivial)];show DataW.lit (.bool true)=.lit (.bool (f t || decide (t=t)))
    rw [decide_eq_true rfl,Bool.or_true]
  · rw [atKey_put_other (by simpa using e),h3];show DataW.lit (.bool (f t))=.lit (.bool (f t || decide (s=t)))
    rw [decide_eq_false (fun h:s=t=>e h.symm),Bool.or_false]
end
end Go.Proofs.YtgnjhlnolihgcaaGreat
namespace Go.Proofs.YtgnjhlnolihgcaaGreat
open Go.RowKit
attribute [local go_sem ↓] Go.wp_at_zero Go.wp_at_succ
theorem outside_any (n m:Int) (h0:0≤m) (h1:m≤9223372036854775807) (w:World) :
    Calls Tryz.prog 232 #[.int .i64 n,.int .i64 m] w fun e w'=>e=.returned (.bool (outB n m))∧Below w.heap.size w w':=by
  have N:Hid (outB n m=(decide (n < -m) || decide (m < n))):=rfl;by_cases ha:n < -m
  · have t1:decide (n < -m)=true:=decide_eq_true ha;have E:Hid (outB n m=true):=(by rw [Hid,N.out,t1]; rfl);clear N ha;go_enter Tryz.func232,Tryz.ntmps232
    go_wp2
    go_ret
    exact ⟨by rw [E.out]; rfl,Below.refl _ _⟩
  · have t1:decide (n < -m)=false:=decide_eq_false ha;by_cases hb:m < n
    · have t2:decide (m < n)=true:=decide_eq_true hb;have E:Hid (outB n m=true):=(by rw [Hid,N.out,t1,t2]; rfl);clear N ha hb;go_enter Tryz.func232,Tryz.ntmps232
      go_wp2
      go_ret
      exact ⟨by rw [E.out]; rfl,Below.refl _ _⟩
    · have t2:decide (m < n)=false:=decide_eq_false hb;have E:Hid (outB n m=false):=(by rw [Hid,N.out,t1,t2]; rfl);clear N ha hb;go_enter Tryz.func232,Tryz.ntmps232
      go_wp2
      go_ret
      exact ⟨by rw [E.out]; rfl,Below.refl _ _⟩
end Go.Proofs.YtgnjhlnolihgcaaGreat
namespace Go.Proofs.YtgnjhlnolihgcaaGreat
open Go.RowKit Go.Lib
attribute [local go_sem ↓] Go.wp_at_zero Go.wp_at_succ
theorem nm_pays (w:World):PredAt Tryz.prog 231 #[] encR notNm w:=fun W r _=>by
  unfold FnGives notNm;by_cases h1:r < 97 <;> by_cases h2:122 < r <;> by_cases h3:r < 48 <;> by_cases h4:57 < r <;> by_cases h5:r=45
  all_goals first
    | (exfalso; omega)
    | (have z1:(r:Int) < 97 ↔ r < 97:=by omega
       have z2:(122:Int) < (r:Int) ↔ 122 < r:=(by omega);have z3:(r:Int) < 48 ↔ r < 48:=(by omega);have z4:(57:Int) < (r:Int) ↔ 57 < r:=(by omega);have z5:(r:Int)=45 ↔ r=45:=(by omega);go_enter Tryz.func231,Tryz.ntmps231
       go_wp2
       all_goals first | (exfalso; omega) | (go_ret; exact ⟨by simp [h1,h2,h3,h4,h5] <;> omega,0,rfl⟩))
theorem ename_any (nm:List UInt8) (hl:nm.length≤140737488355328) (w:World) :
    Calls Tryz.prog 197 #[.string ⟨nm.toArray⟩] w fun e w'=>e=.returned (.bool (nmB nm))∧Below w.heap.size w w':=by
  have hcf:=fun W=>Tryz.strings_ContainsFunc 231 #[] (enters_of Tryz.func231 (by kernel_rfl) rfl) notNm ⟨nm.toArray⟩ W (nm_pays W);rw [idx_nmB] at hcf;have Hcf:=Lib.hid hcf;clear hcf;rcases nm with _ | ⟨b,t⟩
  · go_enter Tryz.func197,Tryz.ntmps197
    go_wp2_with fail
    refine (Hcf.out _).mono ?_;rintro e w1 ⟨rfl,hb⟩;have HB:=Lib.hid hb;clear hb;go_wp2
    go_ret
    exact ⟨rfl,HB.out⟩
  · have HE:=Lib.hid (nmB_cons b t);have hget:(ByteArray.mk (b :: t).toArray)[0]'(by simp [ByteArray.size])=b:=rfl;have hsz:(ByteArray.mk (b :: t).toArray).size=t.length+1:=(by simp [ByteArray.size]);simp only [List.length_cons] at hl;generalize (b :: t).all letB=al at *;generalize hR:nmB (b :: t)=R at *;by_cases h24:t.length+1≤24
    · have t1:decide (((t.length+1:Nat):Int)≤24)=true:=decide_eq_true (by omega);have t1':decide (((t.length:Nat):Int)+1≤24)=true:=decide_eq_true (by omega)
      cases al with
      | false=>
        have E:Hid (R=false):=(by have:=HE.out; rw [decide_eq_true h24] at this; exact this);clear HE;go_enter Tryz.func197,Tryz.ntmps197
        go_wp2_with fail
        refine (Hcf.out _).mono ?_;rintro e w1 ⟨rfl,hb⟩;have HB:=Lib.hid hb;clear hb;go_wp2
        go_ret
        exact ⟨by rw [E.out]; rfl,HB.out⟩
      | true=>
        by_cases h97:97≤b.toNat
        · have t2:decide (97≤b.toNat)=true:=decide_eq_true h97;by_cases h122:b.toNat≤122
          · have t3:decide (b.toNat≤122)=true:=decide_eq_true h122;have E:Hid (R=true):=(by have:=HE.out; rw [decide_eq_true h24,t2,t3] at this; exact this);clear HE;go_enter Tryz.func197,Tryz.ntmps197
            go_wp2_with fail
            refine (Hcf.out _).mono ?_;rintro e w1 ⟨rfl,hb⟩;have HB:=Lib.hid hb;clear hb;go_wp2
            all_goals go_ret
            all_goals first | exact ⟨by rw [E.out]; rfl,HB.out⟩ | (exfalso; omega) | exact ⟨by rw [E.out]; show Ending.returned (.bool (decide ((b.toNat:Int)≤122)))=_; rw [decide_eq_true (by omega)],HB.out⟩ | exact ⟨by rw [E.out]; show Ending.returned (.bool (decide ((b.toNat:Int)≤122)))=_; rw [decide_eq_false (by omega)],HB.out⟩
          · have t3:decide (b.toNat≤122)=false:=decide_eq_false h122;have E:Hid (R=false):=(by have:=HE.out; rw [decide_eq_true h24,t2,t3] at this; exact this);clear HE;go_enter Tryz.func197,Tryz.ntmps197
            go_wp2_with fail
            refine (Hcf.out _).mono ?_;rintro e w1 ⟨rfl,hb⟩;have HB:=Lib.hid hb;clear hb;go_wp2
            all_goals go_ret
            all_goals first | exact ⟨by rw [E.out]; rfl,HB.out⟩ | (exfalso; omega) | exact ⟨by rw [E.out]; show Ending.returned (.bool (decide ((b.toNat:Int)≤122)))=_; rw [decide_eq_true (by omega)],HB.out⟩ | exact ⟨by rw [E.out]; show Ending.returned (.bool (decide ((b.toNat:Int)≤122)))=_; rw [decide_eq_false (by omega)],HB.out⟩
        · have t2:decide (97≤b.toNat)=false:=decide_eq_false h97;have E:Hid (R=false):=(by have:=HE.out; rw [decide_eq_true h24,t2] at this; exact this);clear HE;go_enter Tryz.func197,Tryz.ntmps197
          go_wp2_with fail
          refine (Hcf.out _).mono ?_;rintro e w1 ⟨rfl,hb⟩;have HB:=Lib.hid hb;clear hb;go_wp2
          all_goals go_ret
          all_goals first | exact ⟨by rw [E.out]; rfl,HB.out⟩ | (exfalso; omega) | exact ⟨by rw [E.out]; show Ending.returned (.bool (decide ((b.toNat:Int)≤122)))=_; rw [decide_eq_true (by omega)],HB.out⟩ | exact ⟨by rw [E.out]; show Ending.returned (.bool (decide ((b.toNat:Int)≤122)))=_; rw [decide_eq_false (by omega)],HB.out⟩
    · have t1:decide (((t.length+1:Nat):Int)≤24)=false:=decide_eq_false (by omega);have t1':decide (((t.length:Nat):Int)+1≤24)=false:=decide_eq_false (by omega);have E:Hid (R=false):=(by have:=HE.out; rw [decide_eq_false h24] at this; exact this);clear HE;go_enter Tryz.func197,Tryz.ntmps197
      go_wp2_with fail
      refine (Hcf.out _).mono ?_;rintro e w1 ⟨rfl,hb⟩;have HB:=Lib.hid hb;clear hb;go_wp2
      go_ret
      exact ⟨by rw [E.out]; rfl,HB.out⟩
end Go.Proofs.YtgnjhlnolihgcaaGreat
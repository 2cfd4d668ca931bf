import Derived.Test.YtcpofeehpijbcaaGreatDoorRp6
import Derived.Test.YtcpofeehpijbcaaGreatDoorPb2
set_option maxHeartbeats 16000000
set_option maxRecDepth 100000
namespace Go.Proofs.YtcpofeehpijbcaaGreatDoor
open Lib renaming hid → lh
open Go.RowKit Go.Lib Go.Shelf
attribute [local go_sem ↓] Go.wp_at_zero Go.wp_at_succ
theorem cardParses_walk (s:List UInt8) (w:World) (hE:EnvP w) :
  Calls Tryz.prog 3 #[.string ⟨s.toArray⟩] w fun e w'=>e=.returned (.bool true)∧Below w.heap.size w w':=by
 have EN:=lh hE;have ssz:=q0f s;have B0:Hid (Below w.heap.size w w):=Below.refl _ _;clear hE;by_cases h1:2400 < s.length
 ·have d1:decide ((2400:Int) < (s.length:Int))=true:=decide_eq_true (by omega);have d1n:decide (2400 < s.length)=true:=decide_eq_true h1;by_cases h2:s.length≤16000
  ·have d2:decide ((s.length:Int)≤16000)=true:=decide_eq_true (by omega);have d2n:decide (s.length≤16000)=true:=decide_eq_true h2;go_enter Tryz.func3,Tryz.ntmps3
   go_wp2_with fail
   go_ret
   exact ⟨rfl,B0.out⟩
  ·have d2:decide ((s.length:Int)≤16000)=false:=decide_eq_false (by omega);have d2n:decide (s.length≤16000)=false:=decide_eq_false h2;by_cases h3:17000 < s.length
   ·have d3:decide ((17000:Int) < (s.length:Int))=true:=decide_eq_true (by omega);have d3n:decide (17000 < s.length)=true:=decide_eq_true h3;go_enter Tryz.func3,Tryz.ntmps3
    go_wp2_with fail
    go_ret
    exact ⟨rfl,B0.out⟩
   ·have d3:decide ((17000:Int) < (s.length:Int))=false:=decide_eq_false (by omega);have d3n:decide (17000 < s.length)=false:=decide_eq_false h3;have PP:=lh (parse_any s (by omega) w EN.out);have PR:=lh (fun W=>rparse_any s (by omega) W);go_enter Tryz.func3,Tryz.ntmps3
    go_wp2_with fail
    refine PP.out.mono ?_;rintro xx w1 ⟨⟨A1,c1,rfl,S1⟩,hb⟩;replace B0:=lh (q0a B0.out hb);have S1:=lh S1.g;clear hb PP;go_wp2_with fail
    refine (PR.out _).mono ?_;rintro xx w2 ⟨⟨A2,c2,rfl,S2⟩,hb⟩;replace B0:=lh (q0a B0.out hb);have S1:=lh (S1.out.below hb);have S2:=lh S2.g;clear hb PR;generalize parS s=P at *;obtain ⟨cs,en⟩:=P;dsimp only at *;have SM:=lh (rsame8_q cs A1 A2 _ _ c1 c2 w2 S1.out S2.out);have ee:(en == en)=true:=beq_self_eq_true en;go_wp2_with fail
    refine SM.out.mono ?_;rintro xx w3 ⟨rfl,m,rfl⟩;go_wp2_with fail
    go_ret
    exact ⟨rfl,below_drewN B0.out m⟩
 ·have d1:decide ((2400:Int) < (s.length:Int))=false:=decide_eq_false (by omega);have d1n:decide (2400 < s.length)=false:=decide_eq_false h1;have d3:decide ((17000:Int) < (s.length:Int))=false:=decide_eq_false (by omega);have d3n:decide (17000 < s.length)=false:=decide_eq_false (by omega);have PP:=lh (parse_any s (by omega) w EN.out);have PR:=lh (fun W=>rparse_any s (by omega) W);go_enter Tryz.func3,Tryz.ntmps3
  go_wp2_with fail
  refine PP.out.mono ?_;rintro xx w1 ⟨⟨A1,c1,rfl,S1⟩,hb⟩;replace B0:=lh (q0a B0.out hb);have S1:=lh S1.g;clear hb PP;go_wp2_with fail
  refine (PR.out _).mono ?_;rintro xx w2 ⟨⟨A2,c2,rfl,S2⟩,hb⟩;replace B0:=lh (q0a B0.out hb);have S1:=lh (S1.out.below hb);have S2:=lh S2.g;clear hb PR;generalize parS s=P at *;obtain ⟨cs,en⟩:=P;dsimp only at *;have SM:=lh (rsame8_q cs A1 A2 _ _ c1 c2 w2 S1.out S2.out);have ee:(en == en)=true:=beq_self_eq_true en;go_wp2_with fail
  refine SM.out.mono ?_;rintro xx w3 ⟨rfl,m,rfl⟩;go_wp2_with fail
  go_ret
  exact ⟨rfl,below_drewN B0.out m⟩
end Go.Proofs.YtcpofeehpijbcaaGreatDoor
import Derived.Test.YtcpofeehpijbcaaGreatDoorRp1
import Derived.Test.YtcpofeehpijbcaaGreatDoorPa4
namespace Go.Proofs.YtcpofeehpijbcaaGreatDoor
open Go.RowKit Go.Lib Go.Shelf
theorem trimR_cons (a:UInt8) (r:List UInt8):trimRightB (a :: r) 32=if trimRightB r 32=[] then (if a == 32 then [] else [a]) else a :: trimRightB r 32:=by
 unfold trimRightB;rw [List.reverse_cons,List.dropWhile_append];by_cases h:(r.reverse.dropWhile (fun x=>x == 32))=[]
 ·rw [h];simp only [List.isEmpty_nil,if_true,List.reverse_nil];rw [List.dropWhile_cons];split <;> simp
 ·rw [if_neg (by simpa using h),if_neg (by simpa using h)];simp
theorem trim_comm:∀ l:List UInt8,trimRightB (trimLeftB l 32) 32=trimB l 32
 | []=>rfl
 | a :: r=>by
  have ih:=trim_comm r;unfold trimB at ih ⊢;rw [trimR_cons];by_cases ha:(a == (32:UInt8))=true
  ·have e1:trimLeftB (a :: r) 32=trimLeftB r 32:=(by unfold trimLeftB; rw [List.dropWhile_cons,if_pos ha]);rw [e1,ih];split
   ·next h=>rw [h]
   ·unfold trimLeftB; rw [List.dropWhile_cons (x:=a),if_pos ha]
  ·have e1:trimLeftB (a :: r) 32=a :: r:=(by unfold trimLeftB; rw [List.dropWhile_cons,if_neg ha]);rw [e1,trimR_cons];split
   ·unfold trimLeftB; rw [List.dropWhile_cons,if_neg ha]
   ·unfold trimLeftB; rw [List.dropWhile_cons,if_neg ha]
theorem tch_con (b:UInt8):([32,47]:List UInt8).contains b = !tch b:=by
 unfold tch;simp only [List.contains_cons,List.contains_nil,Bool.or_false];cases (b == 32) <;> cases (b == 47) <;> rfl
theorem idxA_tok:∀ s:List UInt8,indexAny (s ++ [32]) [32,47]=((s.takeWhile tch).length:Int)
 | []=>rfl
 | b :: r=>by
  have ih:=idxA_tok r;rw [List.cons_append,indexAny,tch_con,ih,List.takeWhile_cons];cases tch b
  ·rfl
  ·rw [if_neg (by decide),if_neg (by simp)];simp
theorem tokL_eq (s:List UInt8):tokL s=(s.takeWhile tch).length:=by
 unfold tokL;rw [idxA_tok,Int.toNat_natCast]
end Go.Proofs.YtcpofeehpijbcaaGreatDoor
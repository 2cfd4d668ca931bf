import Derived.Test.YtgnjhlnolihgcaaGreatCalP
namespace Go.Proofs.YtgnjhlnolihgcaaGreat
open Go.RowKit
theorem cround_near {a b:Int} (hb:0 < b):2 * a - b≤2 * b * roundZ a b∧2 * b * roundZ a b≤2 * a+b:=by
 obtain ⟨h1,h2,h3⟩:=dm_parts (x:=a) hb;unfold roundZ;generalize a.fdiv b=q at *;generalize a.fmod b=r at *;have e:2 * b * q=2 * (b * q):=(by rw [Int.mul_assoc]);have e2:2 * b * (q+1)=2 * (b * q)+2 * b:=(by rw [Int.mul_add,e,Int.mul_one]);split
 ·rw [e2]; omega
 ·rw [e]; omega
end Go.Proofs.YtgnjhlnolihgcaaGreat
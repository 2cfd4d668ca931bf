/-
  No cell of these rows narrows 'for every input' (looked for: loops, veiled, ifaces, maps, wideKeys, modest, calm, conditions, laid).
  DERIVED. THE GIVEN ROWS OF THIS SEAT. 5 by the template 'for every input the law returns true; each argument reads behind the call as it read before'; 0 by the template 'total and deterministic' (their statements: YtgnjhlnolihgcaaGreatTotals.lean).
  GIVEN WITH THE SEED: the statements are not yours to turn. If you find one false, say at which input.
  Laid BY PROGRAM, IN A SANDBOX (cutbox-rows.mjs): the forced cells as the released guide's own fill.sh prints them over the translation 7238b7ee5416f6c5… (all of the seat's roots in one cut). By AI agents, Wed Nov 11 2026. No macro, syntax, notation, axiom, sorry.
-/
import Derived.Test.YtgnjhlnolihgcaaGreatChecked
import GoSem.Claim
import GoSem.ClaimJoined
import GoSem.ClaimMapViews
import Derived.JoinedTies
import Derived.KernelRfl
namespace Go.Proofs.YtgnjhlnolihgcaaGreat
/- THE CELL 'sum', in the pinned program and in every row, IS THE sha256 OF THE DUMP (.gsa) THAT YtgnjhlnolihgcaaGreatProg.lean LOADS. Nothing in Lean hashes anything: it is a label: what it is worth is what the hold of that sum in a sandbox is worth. -/
noncomputable def Tryz.pinned : Pinned := { name := "ytgnjhlnolihgcaagreat", sum := "7238b7ee5416f6c564904f171e664a3879311543c52c5eea852655790d5e03ff", checked := Tryz.checked }
namespace Rows
def none {H : Type} : Left H := { results := [], args := [] }

/-- 'planispherelaw39.ApproachApart': WHATEVER THE INPUT: true; the input reads as it did. -/
def approachApartSpec : ChangeSpec := { name := "approachApart", fn := fun _ => fun
  | [d1, d2, d3, d4, d5] => { results := [.lit (.bool true)], args := [d1, d2, d3, d4, d5] }
  | _ => none }
def approachApartRow : OpenClaim := { program := "ytgnjhlnolihgcaagreat", sum := "7238b7ee5416f6c564904f171e664a3879311543c52c5eea852655790d5e03ff", func := "planisphere/planispherelaw39.ApproachApart", spec := "approachApart", unfollowed := true, recurses := true, named := ["math/bits.overflowError"], apart := false }
def ApproachApartSaid : Prop := approachApartRow.holds Tryz.pinned (OpenSpec.ofChange approachApartSpec)

/-- ITS FALSE NEIGHBOUR: 'it returns false'. Refute it at one input. -/
def approachApartWrong : ChangeSpec := { name := "approachApart", fn := fun _ => fun
  | [d1, d2, d3, d4, d5] => { results := [.lit (.bool false)], args := [d1, d2, d3, d4, d5] }
  | _ => none }
def ApproachApartWrongFalsely : Prop := approachApartRow.holds Tryz.pinned (OpenSpec.ofChange approachApartWrong)

/-- 'planispherelaw10.CalibCombines': WHATEVER THE INPUT: true; the input reads as it did. -/
def calibCombinesSpec : ChangeSpec := { name := "calibCombines", fn := fun _ => fun
  | [d1, d2, d3] => { results := [.lit (.bool true)], args := [d1, d2, d3] }
  | _ => none }
def calibCombinesRow : OpenClaim := { program := "ytgnjhlnolihgcaagreat", sum := "7238b7ee5416f6c564904f171e664a3879311543c52c5eea852655790d5e03ff", func := "planisphere/planispherelaw10.CalibCombines", spec := "calibCombines", unfollowed := true, recurses := true, named := ["math/bits.overflowError"], apart := false }
def CalibCombinesSaid : Prop := calibCombinesRow.holds Tryz.pinned (OpenSpec.ofChange calibCombinesSpec)

/-- ITS FALSE NEIGHBOUR: 'it returns false'. Refute it at one input. -/
def calibCombinesWrong : ChangeSpec := { name := "calibCombines", fn := fun _ => fun
  | [d1, d2, d3] => { results := [.lit (.bool false)], args := [d1, d2, d3] }
  | _ => none }
def CalibCombinesWrongFalsely : Prop := calibCombinesRow.holds Tryz.pinned (OpenSpec.ofChange calibCombinesWrong)

/-- 'planispherelaw10.CalibFlat': WHATEVER THE INPUT: true; the input reads as it did. -/
def calibFlatSpec : ChangeSpec := { name := "calibFlat", fn := fun _ => fun
  | [d1, d2, d3, d4, d5, d6, d7, d8] => { results := [.lit (.bool true)], args := [d1, d2, d3, d4, d5, d6, d7, d8] }
  | _ => none }
def calibFlatRow : OpenClaim := { program := "ytgnjhlnolihgcaagreat", sum := "7238b7ee5416f6c564904f171e664a3879311543c52c5eea852655790d5e03ff", func := "planisphere/planispherelaw10.CalibFlat", spec := "calibFlat", unfollowed := true, recurses := true, named := ["math/bits.overflowError"], apart := false }
def CalibFlatSaid : Prop := calibFlatRow.holds Tryz.pinned (OpenSpec.ofChange calibFlatSpec)

/-- ITS FALSE NEIGHBOUR: 'it returns false'. Refute it at one input. -/
def calibFlatWrong : ChangeSpec := { name := "calibFlat", fn := fun _ => fun
  | [d1, d2, d3, d4, d5, d6, d7, d8] => { results := [.lit (.bool false)], args := [d1, d2, d3, d4, d5, d6, d7, d8] }
  | _ => none }
def CalibFlatWrongFalsely : Prop := calibFlatRow.holds Tryz.pinned (OpenSpec.ofChange calibFlatWrong)

/-- 'planispherelaw10.CalibEqual': WHATEVER THE INPUT: true; the input reads as it did. -/
def calibEqualSpec : ChangeSpec := { name := "calibEqual", fn := fun _ => fun
  | [d1, d2, d3] => { results := [.lit (.bool true)], args := [d1, d2, d3] }
  | _ => none }
def calibEqualRow : OpenClaim := { program := "ytgnjhlnolihgcaagreat", sum := "7238b7ee5416f6c564904f171e664a3879311543c52c5eea852655790d5e03ff", func := "planisphere/planispherelaw10.CalibEqual", spec := "calibEqual", unfollowed := true, recurses := true, named := ["math/bits.overflowError"], apart := false }
def CalibEqualSaid : Prop := calibEqualRow.holds Tryz.pinned (OpenSpec.ofChange calibEqualSpec)

/-- ITS FALSE NEIGHBOUR: 'it returns false'. Refute it at one input. -/
def calibEqualWrong : ChangeSpec := { name := "calibEqual", fn := fun _ => fun
  | [d1, d2, d3] => { results := [.lit (.bool false)], args := [d1, d2, d3] }
  | _ => none }
def CalibEqualWrongFalsely : Prop := calibEqualRow.holds Tryz.pinned (OpenSpec.ofChange calibEqualWrong)

/-- 'planispherelaw10.CalibExact': WHATEVER THE INPUT: true; the input reads as it did. -/
def calibExactSpec : ChangeSpec := { name := "calibExact", fn := fun _ => fun
  | [d1, d2, d3, d4, d5, d6] => { results := [.lit (.bool true)], args := [d1, d2, d3, d4, d5, d6] }
  | _ => none }
def calibExactRow : OpenClaim := { program := "ytgnjhlnolihgcaagreat", sum := "7238b7ee5416f6c564904f171e664a3879311543c52c5eea852655790d5e03ff", func := "planisphere/planispherelaw10.CalibExact", spec := "calibExact", unfollowed := true, recurses := true, named := ["math/bits.overflowError"], apart := false }
def CalibExactSaid : Prop := calibExactRow.holds Tryz.pinned (OpenSpec.ofChange calibExactSpec)

/-- ITS FALSE NEIGHBOUR: 'it returns false'. Refute it at one input. -/
def calibExactWrong : ChangeSpec := { name := "calibExact", fn := fun _ => fun
  | [d1, d2, d3, d4, d5, d6] => { results := [.lit (.bool false)], args := [d1, d2, d3, d4, d5, d6] }
  | _ => none }
def CalibExactWrongFalsely : Prop := calibExactRow.holds Tryz.pinned (OpenSpec.ofChange calibExactWrong)

/- THE SECOND FORM. 'bulk': how many values and letters a reading holds, each counted each time it is reached (what is shared counts as often as it is met; a slice's spare places count too). A statement '..UptoSaid' is the law's where the arguments, and the package variables that the reading takes, are together of bulk at most 1048576: NARROWER than '..Said'. Prove '..Said' where nothing that the law and all that it calls make is longer than what came in: it says more and counts as full. Else prove '..UptoSaid'. A law counts once. -/
mutual
def uptoBulk {H : Type} : DataW H → Nat
  | .lit (.string bytes) => bytes.length + 1
  | .lit _ => 1
  | .nil => 1
  | .ptr d => uptoBulk d + 1
  | .slice elems spare => uptoBulkAll elems + uptoBulkAll spare + 1
  | .agg parts => uptoBulkAll parts + 1
  | .iface _ d => uptoBulk d + 1
  | .map entries => uptoBulkEntries entries + 1
  | .held _ => 1
def uptoBulkAll {H : Type} : List (DataW H) → Nat
  | [] => 0
  | d :: r => uptoBulk d + uptoBulkAll r
def uptoBulkEntries {H : Type} : List (Lit × DataW H) → Nat
  | [] => 0
  | x :: r => uptoBulkEntry x + uptoBulkEntries r
def uptoBulkEntry {H : Type} : Lit × DataW H → Nat
  | (.string bytes, d) => bytes.length + uptoBulk d + 1
  | (_, d) => uptoBulk d + 1
 end
def uptoSmall : (H : Type) → List (DataW H) → Bool := fun _ ds => decide (uptoBulkAll ds ≤ 1048576)
def OpenSpec.upto (s : _root_.Go.ChangeSpec) : _root_.Go.OpenSpec := { _root_.Go.OpenSpec.ofChange s with cond := some uptoSmall }

/-- 'planispherelaw39.ApproachApart', WHERE WHAT IT READS IS OF BULK AT MOST 1048576: true; the input reads as it did. -/
def approachApartUptoRow : OpenClaim := { program := "ytgnjhlnolihgcaagreat", sum := "7238b7ee5416f6c564904f171e664a3879311543c52c5eea852655790d5e03ff", func := "planisphere/planispherelaw39.ApproachApart", spec := "approachApart", unfollowed := true, recurses := true, named := ["math/bits.overflowError"], apart := false, narrowed := true }
def ApproachApartUptoSaid : Prop := approachApartUptoRow.holds Tryz.pinned (OpenSpec.upto approachApartSpec)

/-- 'planispherelaw10.CalibCombines', WHERE WHAT IT READS IS OF BULK AT MOST 1048576: true; the input reads as it did. -/
def calibCombinesUptoRow : OpenClaim := { program := "ytgnjhlnolihgcaagreat", sum := "7238b7ee5416f6c564904f171e664a3879311543c52c5eea852655790d5e03ff", func := "planisphere/planispherelaw10.CalibCombines", spec := "calibCombines", unfollowed := true, recurses := true, named := ["math/bits.overflowError"], apart := false, narrowed := true }
def CalibCombinesUptoSaid : Prop := calibCombinesUptoRow.holds Tryz.pinned (OpenSpec.upto calibCombinesSpec)

/-- 'planispherelaw10.CalibFlat', WHERE WHAT IT READS IS OF BULK AT MOST 1048576: true; the input reads as it did. -/
def calibFlatUptoRow : OpenClaim := { program := "ytgnjhlnolihgcaagreat", sum := "7238b7ee5416f6c564904f171e664a3879311543c52c5eea852655790d5e03ff", func := "planisphere/planispherelaw10.CalibFlat", spec := "calibFlat", unfollowed := true, recurses := true, named := ["math/bits.overflowError"], apart := false, narrowed := true }
def CalibFlatUptoSaid : Prop := calibFlatUptoRow.holds Tryz.pinned (OpenSpec.upto calibFlatSpec)

/-- 'planispherelaw10.CalibEqual', WHERE WHAT IT READS IS OF BULK AT MOST 1048576: true; the input reads as it did. -/
def calibEqualUptoRow : OpenClaim := { program := "ytgnjhlnolihgcaagreat", sum := "7238b7ee5416f6c564904f171e664a3879311543c52c5eea852655790d5e03ff", func := "planisphere/planispherelaw10.CalibEqual", spec := "calibEqual", unfollowed := true, recurses := true, named := ["math/bits.overflowError"], apart := false, narrowed := true }
def CalibEqualUptoSaid : Prop := calibEqualUptoRow.holds Tryz.pinned (OpenSpec.upto calibEqualSpec)

/-- 'planispherelaw10.CalibExact', WHERE WHAT IT READS IS OF BULK AT MOST 1048576: true; the input reads as it did. -/
def calibExactUptoRow : OpenClaim := { program := "ytgnjhlnolihgcaagreat", sum := "7238b7ee5416f6c564904f171e664a3879311543c52c5eea852655790d5e03ff", func := "planisphere/planispherelaw10.CalibExact", spec := "calibExact", unfollowed := true, recurses := true, named := ["math/bits.overflowError"], apart := false, narrowed := true }
def CalibExactUptoSaid : Prop := calibExactUptoRow.holds Tryz.pinned (OpenSpec.upto calibExactSpec)

end Rows
end Go.Proofs.YtgnjhlnolihgcaaGreat

/-
  No cell of these rows narrows 'for every input' (looked for: loops, veiled, ifaces, maps, wideKeys, modest, calm, conditions, laid).
  DERIVED. THE GIVEN ROWS OF THIS SEAT. 6 by the template 'for every input the law returns true; each argument reads behind the call as it read before'; 0 by the template 'total and deterministic' (their statements: YtjlmoilceacldaaGreatTotals.lean).
  GIVEN WITH THE SEED: the statements are not yours to turn. If you find one false, say at which input.
  Laid BY PROGRAM, IN A SANDBOX (cutbox-rows.mjs): the forced cells as the released guide's own fill.sh prints them over the translation 252d42de27649389… (all of the seat's roots in one cut). By AI agents, Wed Nov 11 2026. No macro, syntax, notation, axiom, sorry.
-/
import Derived.Test.YtjlmoilceacldaaGreatChecked
import GoSem.Claim
import GoSem.ClaimJoined
import GoSem.ClaimMapViews
import Derived.JoinedTies
import Derived.KernelRfl
namespace Go.Proofs.YtjlmoilceacldaaGreat
/- THE CELL 'sum', in the pinned program and in every row, IS THE sha256 OF THE DUMP (.gsa) THAT YtjlmoilceacldaaGreatProg.lean LOADS. Nothing in Lean hashes anything: it is a label: what it is worth is what the hold of that sum in a sandbox is worth. -/
noncomputable def Tryz.pinned : Pinned := { name := "ytjlmoilceacldaagreat", sum := "252d42de2764938930171cd861983c27c24900c753c767fc37d748a650573a53", checked := Tryz.checked }
namespace Rows
def none {H : Type} : Left H := { results := [], args := [] }

/-- 'planispherelaw39.ApproachGaps': WHATEVER THE INPUT: true; the input reads as it did. -/
def approachGapsSpec : ChangeSpec := { name := "approachGaps", fn := fun _ => fun
  | [d1, d2, d3] => { results := [.lit (.bool true)], args := [d1, d2, d3] }
  | _ => none }
def approachGapsRow : OpenClaim := { program := "ytjlmoilceacldaagreat", sum := "252d42de2764938930171cd861983c27c24900c753c767fc37d748a650573a53", func := "planisphere/planispherelaw39.ApproachGaps", spec := "approachGaps", unfollowed := true, recurses := true, named := ["math/bits.overflowError"], apart := false }
def ApproachGapsSaid : Prop := approachGapsRow.holds Tryz.pinned (OpenSpec.ofChange approachGapsSpec)

/-- ITS FALSE NEIGHBOUR: 'it returns false'. Refute it at one input. -/
def approachGapsWrong : ChangeSpec := { name := "approachGaps", fn := fun _ => fun
  | [d1, d2, d3] => { results := [.lit (.bool false)], args := [d1, d2, d3] }
  | _ => none }
def ApproachGapsWrongFalsely : Prop := approachGapsRow.holds Tryz.pinned (OpenSpec.ofChange approachGapsWrong)

/-- 'planispherelaw39.ApproachScans': WHATEVER THE INPUT: true; the input reads as it did. -/
def approachScansSpec : ChangeSpec := { name := "approachScans", fn := fun _ => fun
  | [d1, d2, d3, d4] => { results := [.lit (.bool true)], args := [d1, d2, d3, d4] }
  | _ => none }
def approachScansRow : OpenClaim := { program := "ytjlmoilceacldaagreat", sum := "252d42de2764938930171cd861983c27c24900c753c767fc37d748a650573a53", func := "planisphere/planispherelaw39.ApproachScans", spec := "approachScans", unfollowed := true, recurses := true, named := ["math/bits.overflowError"], apart := false }
def ApproachScansSaid : Prop := approachScansRow.holds Tryz.pinned (OpenSpec.ofChange approachScansSpec)

/-- ITS FALSE NEIGHBOUR: 'it returns false'. Refute it at one input. -/
def approachScansWrong : ChangeSpec := { name := "approachScans", fn := fun _ => fun
  | [d1, d2, d3, d4] => { results := [.lit (.bool false)], args := [d1, d2, d3, d4] }
  | _ => none }
def ApproachScansWrongFalsely : Prop := approachScansRow.holds Tryz.pinned (OpenSpec.ofChange approachScansWrong)

/-- 'planispherelaw39.ApproachNames': WHATEVER THE INPUT: true; the input reads as it did. -/
def approachNamesSpec : ChangeSpec := { name := "approachNames", fn := fun _ => fun
  | [] => { results := [.lit (.bool true)], args := [] }
  | _ => none }
def approachNamesRow : OpenClaim := { program := "ytjlmoilceacldaagreat", sum := "252d42de2764938930171cd861983c27c24900c753c767fc37d748a650573a53", func := "planisphere/planispherelaw39.ApproachNames", spec := "approachNames", unfollowed := true, recurses := true, named := ["math/bits.overflowError"], apart := false }
def ApproachNamesSaid : Prop := approachNamesRow.holds Tryz.pinned (OpenSpec.ofChange approachNamesSpec)

/-- ITS FALSE NEIGHBOUR: 'it returns false'. Refute it at one input. -/
def approachNamesWrong : ChangeSpec := { name := "approachNames", fn := fun _ => fun
  | [] => { results := [.lit (.bool false)], args := [] }
  | _ => none }
def ApproachNamesWrongFalsely : Prop := approachNamesRow.holds Tryz.pinned (OpenSpec.ofChange approachNamesWrong)

/-- 'planispherelaw39.ApproachComplete': WHATEVER THE INPUT: true; the input reads as it did. -/
def approachCompleteSpec : ChangeSpec := { name := "approachComplete", fn := fun _ => fun
  | [d1, d2, d3, d4, d5, d6] => { results := [.lit (.bool true)], args := [d1, d2, d3, d4, d5, d6] }
  | _ => none }
def approachCompleteRow : OpenClaim := { program := "ytjlmoilceacldaagreat", sum := "252d42de2764938930171cd861983c27c24900c753c767fc37d748a650573a53", func := "planisphere/planispherelaw39.ApproachComplete", spec := "approachComplete", unfollowed := true, recurses := true, named := ["math/bits.overflowError"], apart := false }
def ApproachCompleteSaid : Prop := approachCompleteRow.holds Tryz.pinned (OpenSpec.ofChange approachCompleteSpec)

/-- ITS FALSE NEIGHBOUR: 'it returns false'. Refute it at one input. -/
def approachCompleteWrong : ChangeSpec := { name := "approachComplete", fn := fun _ => fun
  | [d1, d2, d3, d4, d5, d6] => { results := [.lit (.bool false)], args := [d1, d2, d3, d4, d5, d6] }
  | _ => none }
def ApproachCompleteWrongFalsely : Prop := approachCompleteRow.holds Tryz.pinned (OpenSpec.ofChange approachCompleteWrong)

/-- 'planispherelaw39.ApproachApart': WHATEVER THE INPUT: true; the input reads as it did. -/
def approachApartSpec : ChangeSpec := { name := "approachApart", fn := fun _ => fun
  | [d1, d2, d3, d4, d5] => { results := [.lit (.bool true)], args := [d1, d2, d3, d4, d5] }
  | _ => none }
def approachApartRow : OpenClaim := { program := "ytjlmoilceacldaagreat", sum := "252d42de2764938930171cd861983c27c24900c753c767fc37d748a650573a53", func := "planisphere/planispherelaw39.ApproachApart", spec := "approachApart", unfollowed := true, recurses := true, named := ["math/bits.overflowError"], apart := false }
def ApproachApartSaid : Prop := approachApartRow.holds Tryz.pinned (OpenSpec.ofChange approachApartSpec)

/-- ITS FALSE NEIGHBOUR: 'it returns false'. Refute it at one input. -/
def approachApartWrong : ChangeSpec := { name := "approachApart", fn := fun _ => fun
  | [d1, d2, d3, d4, d5] => { results := [.lit (.bool false)], args := [d1, d2, d3, d4, d5] }
  | _ => none }
def ApproachApartWrongFalsely : Prop := approachApartRow.holds Tryz.pinned (OpenSpec.ofChange approachApartWrong)

/-- 'planispherelaw39.ApproachNearest': WHATEVER THE INPUT: true; the input reads as it did. -/
def approachNearestSpec : ChangeSpec := { name := "approachNearest", fn := fun _ => fun
  | [d1, d2, d3, d4] => { results := [.lit (.bool true)], args := [d1, d2, d3, d4] }
  | _ => none }
def approachNearestRow : OpenClaim := { program := "ytjlmoilceacldaagreat", sum := "252d42de2764938930171cd861983c27c24900c753c767fc37d748a650573a53", func := "planisphere/planispherelaw39.ApproachNearest", spec := "approachNearest", unfollowed := true, recurses := true, named := ["math/bits.overflowError"], apart := false }
def ApproachNearestSaid : Prop := approachNearestRow.holds Tryz.pinned (OpenSpec.ofChange approachNearestSpec)

/-- ITS FALSE NEIGHBOUR: 'it returns false'. Refute it at one input. -/
def approachNearestWrong : ChangeSpec := { name := "approachNearest", fn := fun _ => fun
  | [d1, d2, d3, d4] => { results := [.lit (.bool false)], args := [d1, d2, d3, d4] }
  | _ => none }
def ApproachNearestWrongFalsely : Prop := approachNearestRow.holds Tryz.pinned (OpenSpec.ofChange approachNearestWrong)

/- THE SECOND FORM. 'bulk': how many values and letters a reading holds, each counted each time it is reached (what is shared counts as often as it is met; a slice's spare places count too). A statement '..UptoSaid' is the law's where the arguments, and the package variables that the reading takes, are together of bulk at most 1048576: NARROWER than '..Said'. Prove '..Said' where nothing that the law and all that it calls make is longer than what came in: it says more and counts as full. Else prove '..UptoSaid'. A law counts once. -/
mutual
def uptoBulk {H : Type} : DataW H → Nat
  | .lit (.string bytes) => bytes.length + 1
  | .lit _ => 1
  | .nil => 1
  | .ptr d => uptoBulk d + 1
  | .slice elems spare => uptoBulkAll elems + uptoBulkAll spare + 1
  | .agg parts => uptoBulkAll parts + 1
  | .iface _ d => uptoBulk d + 1
  | .map entries => uptoBulkEntries entries + 1
  | .held _ => 1
def uptoBulkAll {H : Type} : List (DataW H) → Nat
  | [] => 0
  | d :: r => uptoBulk d + uptoBulkAll r
def uptoBulkEntries {H : Type} : List (Lit × DataW H) → Nat
  | [] => 0
  | x :: r => uptoBulkEntry x + uptoBulkEntries r
def uptoBulkEntry {H : Type} : Lit × DataW H → Nat
  | (.string bytes, d) => bytes.length + uptoBulk d + 1
  | (_, d) => uptoBulk d + 1
 end
def uptoSmall : (H : Type) → List (DataW H) → Bool := fun _ ds => decide (uptoBulkAll ds ≤ 1048576)
def OpenSpec.upto (s : _root_.Go.ChangeSpec) : _root_.Go.OpenSpec := { _root_.Go.OpenSpec.ofChange s with cond := some uptoSmall }

/-- 'planispherelaw39.ApproachGaps', WHERE WHAT IT READS IS OF BULK AT MOST 1048576: true; the input reads as it did. -/
def approachGapsUptoRow : OpenClaim := { program := "ytjlmoilceacldaagreat", sum := "252d42de2764938930171cd861983c27c24900c753c767fc37d748a650573a53", func := "planisphere/planispherelaw39.ApproachGaps", spec := "approachGaps", unfollowed := true, recurses := true, named := ["math/bits.overflowError"], apart := false, narrowed := true }
def ApproachGapsUptoSaid : Prop := approachGapsUptoRow.holds Tryz.pinned (OpenSpec.upto approachGapsSpec)

/-- 'planispherelaw39.ApproachScans', WHERE WHAT IT READS IS OF BULK AT MOST 1048576: true; the input reads as it did. -/
def approachScansUptoRow : OpenClaim := { program := "ytjlmoilceacldaagreat", sum := "252d42de2764938930171cd861983c27c24900c753c767fc37d748a650573a53", func := "planisphere/planispherelaw39.ApproachScans", spec := "approachScans", unfollowed := true, recurses := true, named := ["math/bits.overflowError"], apart := false, narrowed := true }
def ApproachScansUptoSaid : Prop := approachScansUptoRow.holds Tryz.pinned (OpenSpec.upto approachScansSpec)

/-- 'planispherelaw39.ApproachNames', WHERE WHAT IT READS IS OF BULK AT MOST 1048576: true; the input reads as it did. -/
def approachNamesUptoRow : OpenClaim := { program := "ytjlmoilceacldaagreat", sum := "252d42de2764938930171cd861983c27c24900c753c767fc37d748a650573a53", func := "planisphere/planispherelaw39.ApproachNames", spec := "approachNames", unfollowed := true, recurses := true, named := ["math/bits.overflowError"], apart := false, narrowed := true }
def ApproachNamesUptoSaid : Prop := approachNamesUptoRow.holds Tryz.pinned (OpenSpec.upto approachNamesSpec)

/-- 'planispherelaw39.ApproachComplete', WHERE WHAT IT READS IS OF BULK AT MOST 1048576: true; the input reads as it did. -/
def approachCompleteUptoRow : OpenClaim := { program := "ytjlmoilceacldaagreat", sum := "252d42de2764938930171cd861983c27c24900c753c767fc37d748a650573a53", func := "planisphere/planispherelaw39.ApproachComplete", spec := "approachComplete", unfollowed := true, recurses := true, named := ["math/bits.overflowError"], apart := false, narrowed := true }
def ApproachCompleteUptoSaid : Prop := approachCompleteUptoRow.holds Tryz.pinned (OpenSpec.upto approachCompleteSpec)

/-- 'planispherelaw39.ApproachApart', WHERE WHAT IT READS IS OF BULK AT MOST 1048576: true; the input reads as it did. -/
def approachApartUptoRow : OpenClaim := { program := "ytjlmoilceacldaagreat", sum := "252d42de2764938930171cd861983c27c24900c753c767fc37d748a650573a53", func := "planisphere/planispherelaw39.ApproachApart", spec := "approachApart", unfollowed := true, recurses := true, named := ["math/bits.overflowError"], apart := false, narrowed := true }
def ApproachApartUptoSaid : Prop := approachApartUptoRow.holds Tryz.pinned (OpenSpec.upto approachApartSpec)

/-- 'planispherelaw39.ApproachNearest', WHERE WHAT IT READS IS OF BULK AT MOST 1048576: true; the input reads as it did. -/
def approachNearestUptoRow : OpenClaim := { program := "ytjlmoilceacldaagreat", sum := "252d42de2764938930171cd861983c27c24900c753c767fc37d748a650573a53", func := "planisphere/planispherelaw39.ApproachNearest", spec := "approachNearest", unfollowed := true, recurses := true, named := ["math/bits.overflowError"], apart := false, narrowed := true }
def ApproachNearestUptoSaid : Prop := approachNearestUptoRow.holds Tryz.pinned (OpenSpec.upto approachNearestSpec)

end Rows
end Go.Proofs.YtjlmoilceacldaaGreat

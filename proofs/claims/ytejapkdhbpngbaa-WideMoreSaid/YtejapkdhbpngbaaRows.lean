/-
  No cell of these rows narrows 'for every input' (looked for: loops, veiled, ifaces, maps, wideKeys, modest, calm, conditions, laid).
  DERIVED. THE GIVEN ROWS OF THIS SEAT. 3 by the template 'for every input the law returns true; each argument reads behind the call as it read before'; 0 by the template 'total and deterministic' (their statements: YtejapkdhbpngbaaTotals.lean).
  GIVEN WITH THE SEED: the statements are not yours to turn. If you find one false, say at which input.
  Laid BY PROGRAM, IN A SANDBOX (cutbox-rows.mjs): the forced cells as the released guide's own fill.sh prints them over the translation 59edd0376de2d48f… (all of the seat's roots in one cut). By AI agents, Wed Nov 11 2026. No macro, syntax, notation, axiom, sorry.
-/
import Derived.Test.YtejapkdhbpngbaaChecked
import GoSem.Claim
import GoSem.ClaimJoined
import GoSem.ClaimMapViews
import Derived.JoinedTies
import Derived.KernelRfl
namespace Go.Proofs.Ytejapkdhbpngbaa
/- THE CELL 'sum', in the pinned program and in every row, IS THE sha256 OF THE DUMP (.gsa) THAT YtejapkdhbpngbaaProg.lean LOADS. Nothing in Lean hashes anything: it is a label: what it is worth is what the hold of that sum in a sandbox is worth. -/
noncomputable def Try.pinned : Pinned := { name := "ytejapkdhbpngbaa", sum := "59edd0376de2d48f99ef3546460768574f11b023358714fe74ce320ebff91f10", checked := Try.checked }
namespace Rows
def none {H : Type} : Left H := { results := [], args := [] }

/-- 'planispherelaw01.WideAsks': WHATEVER THE INPUT: true; the input reads as it did. -/
def wideAsksSpec : ChangeSpec := { name := "wideAsks", fn := fun _ => fun
  | [d1, d2, d3] => { results := [.lit (.bool true)], args := [d1, d2, d3] }
  | _ => none }
def wideAsksRow : OpenClaim := { program := "ytejapkdhbpngbaa", sum := "59edd0376de2d48f99ef3546460768574f11b023358714fe74ce320ebff91f10", func := "planisphere/planispherelaw01.WideAsks", spec := "wideAsks", unfollowed := true, recurses := true, apart := false }
def WideAsksSaid : Prop := wideAsksRow.holds Try.pinned (OpenSpec.ofChange wideAsksSpec)

/-- ITS FALSE NEIGHBOUR: 'it returns false'. Refute it at one input. -/
def wideAsksWrong : ChangeSpec := { name := "wideAsks", fn := fun _ => fun
  | [d1, d2, d3] => { results := [.lit (.bool false)], args := [d1, d2, d3] }
  | _ => none }
def WideAsksWrongFalsely : Prop := wideAsksRow.holds Try.pinned (OpenSpec.ofChange wideAsksWrong)

/-- 'planispherelaw01.WideReckons': WHATEVER THE INPUT: true; the input reads as it did. -/
def wideReckonsSpec : ChangeSpec := { name := "wideReckons", fn := fun _ => fun
  | [d1, d2] => { results := [.lit (.bool true)], args := [d1, d2] }
  | _ => none }
def wideReckonsRow : OpenClaim := { program := "ytejapkdhbpngbaa", sum := "59edd0376de2d48f99ef3546460768574f11b023358714fe74ce320ebff91f10", func := "planisphere/planispherelaw01.WideReckons", spec := "wideReckons", unfollowed := true, recurses := true, named := ["math/bits.overflowError"], apart := false }
def WideReckonsSaid : Prop := wideReckonsRow.holds Try.pinned (OpenSpec.ofChange wideReckonsSpec)

/-- ITS FALSE NEIGHBOUR: 'it returns false'. Refute it at one input. -/
def wideReckonsWrong : ChangeSpec := { name := "wideReckons", fn := fun _ => fun
  | [d1, d2] => { results := [.lit (.bool false)], args := [d1, d2] }
  | _ => none }
def WideReckonsWrongFalsely : Prop := wideReckonsRow.holds Try.pinned (OpenSpec.ofChange wideReckonsWrong)

/-- 'planispherelaw01.WideMore': WHATEVER THE INPUT: true; the input reads as it did. -/
def wideMoreSpec : ChangeSpec := { name := "wideMore", fn := fun _ => fun
  | [d1, d2, d3, d4] => { results := [.lit (.bool true)], args := [d1, d2, d3, d4] }
  | _ => none }
def wideMoreRow : OpenClaim := { program := "ytejapkdhbpngbaa", sum := "59edd0376de2d48f99ef3546460768574f11b023358714fe74ce320ebff91f10", func := "planisphere/planispherelaw01.WideMore", spec := "wideMore", unfollowed := true, recurses := true, named := ["math/bits.overflowError"], apart := false }
def WideMoreSaid : Prop := wideMoreRow.holds Try.pinned (OpenSpec.ofChange wideMoreSpec)

/-- ITS FALSE NEIGHBOUR: 'it returns false'. Refute it at one input. -/
def wideMoreWrong : ChangeSpec := { name := "wideMore", fn := fun _ => fun
  | [d1, d2, d3, d4] => { results := [.lit (.bool false)], args := [d1, d2, d3, d4] }
  | _ => none }
def WideMoreWrongFalsely : Prop := wideMoreRow.holds Try.pinned (OpenSpec.ofChange wideMoreWrong)

/- THE SECOND FORM. 'bulk': how many values and letters a reading holds, each counted each time it is reached (what is shared counts as often as it is met; a slice's spare places count too). A statement '..UptoSaid' is the law's where the arguments, and the package variables that the reading takes, are together of bulk at most 1048576: NARROWER than '..Said'. Prove '..Said' where nothing that the law and all that it calls make is longer than what came in: it says more and counts as full. Else prove '..UptoSaid'. A law counts once. -/
mutual
def uptoBulk {H : Type} : DataW H → Nat
  | .lit (.string bytes) => bytes.length + 1
  | .lit _ => 1
  | .nil => 1
  | .ptr d => uptoBulk d + 1
  | .slice elems spare => uptoBulkAll elems + uptoBulkAll spare + 1
  | .agg parts => uptoBulkAll parts + 1
  | .iface _ d => uptoBulk d + 1
  | .map entries => uptoBulkEntries entries + 1
  | .held _ => 1
def uptoBulkAll {H : Type} : List (DataW H) → Nat
  | [] => 0
  | d :: r => uptoBulk d + uptoBulkAll r
def uptoBulkEntries {H : Type} : List (Lit × DataW H) → Nat
  | [] => 0
  | x :: r => uptoBulkEntry x + uptoBulkEntries r
def uptoBulkEntry {H : Type} : Lit × DataW H → Nat
  | (.string bytes, d) => bytes.length + uptoBulk d + 1
  | (_, d) => uptoBulk d + 1
 end
def uptoSmall : (H : Type) → List (DataW H) → Bool := fun _ ds => decide (uptoBulkAll ds ≤ 1048576)
def OpenSpec.upto (s : _root_.Go.ChangeSpec) : _root_.Go.OpenSpec := { _root_.Go.OpenSpec.ofChange s with cond := some uptoSmall }

/-- 'planispherelaw01.WideAsks', WHERE WHAT IT READS IS OF BULK AT MOST 1048576: true; the input reads as it did. -/
def wideAsksUptoRow : OpenClaim := { program := "ytejapkdhbpngbaa", sum := "59edd0376de2d48f99ef3546460768574f11b023358714fe74ce320ebff91f10", func := "planisphere/planispherelaw01.WideAsks", spec := "wideAsks", unfollowed := true, recurses := true, apart := false, narrowed := true }
def WideAsksUptoSaid : Prop := wideAsksUptoRow.holds Try.pinned (OpenSpec.upto wideAsksSpec)

/-- 'planispherelaw01.WideReckons', WHERE WHAT IT READS IS OF BULK AT MOST 1048576: true; the input reads as it did. -/
def wideReckonsUptoRow : OpenClaim := { program := "ytejapkdhbpngbaa", sum := "59edd0376de2d48f99ef3546460768574f11b023358714fe74ce320ebff91f10", func := "planisphere/planispherelaw01.WideReckons", spec := "wideReckons", unfollowed := true, recurses := true, named := ["math/bits.overflowError"], apart := false, narrowed := true }
def WideReckonsUptoSaid : Prop := wideReckonsUptoRow.holds Try.pinned (OpenSpec.upto wideReckonsSpec)

/-- 'planispherelaw01.WideMore', WHERE WHAT IT READS IS OF BULK AT MOST 1048576: true; the input reads as it did. -/
def wideMoreUptoRow : OpenClaim := { program := "ytejapkdhbpngbaa", sum := "59edd0376de2d48f99ef3546460768574f11b023358714fe74ce320ebff91f10", func := "planisphere/planispherelaw01.WideMore", spec := "wideMore", unfollowed := true, recurses := true, named := ["math/bits.overflowError"], apart := false, narrowed := true }
def WideMoreUptoSaid : Prop := wideMoreUptoRow.holds Try.pinned (OpenSpec.upto wideMoreSpec)

end Rows
end Go.Proofs.Ytejapkdhbpngbaa

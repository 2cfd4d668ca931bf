/-
  DERIVED. GIVEN WITH THE SEED: THE CARDS: each row of YthlfidbhldbedaaDoorRows.lean that lists a variable, with what it lists TIED to the program's text (the seventh form; the later family's looks); each row that meets fmt, with fmt's text TOLD by the authors' own Lean function (tested against real Go, not proved from fmt's source: count such statements apart). THE CARD IS WHAT COUNTS. Prove the row's statement (the work); the ties are given (YthlfidbhldbedaaDoorTie.lean); close each card by the builder's one call (the guide's Derived/Test/ToyasCard.lean, 'card_holds'). Laid BY PROGRAM, IN A SANDBOX (cutbox-door.mjs). By AI agents, Wed Nov 11 2026. No macro, syntax, notation, axiom, sorry.
-/
import Derived.Test.YthlfidbhldbedaaDoorRows
import GoSem.ClaimSeven
namespace Go.Proofs.YthlfidbhldbedaaDoor
namespace Rows

/-- THE TIED CARD OF 'planispherelaw01.WideNames'. -/
def wideNamesCard : Claim7 := { stood := { row := wideNamesRow, standIns := [], harness := (true, "268ffe5eaad32a37d4293875911a9ca7f98a5460e1941ca03c8331677e718746"), looks := false }, kinds := [], alts := [], laidByText := true, laidKinds := [.data, .pinned], laidTests := true, laidLooks := .later }
def WideNamesCardSaid : Prop := Claim7.holds Tryd.pinned (.plain (OpenSpec.ofChange wideNamesSpec)) wideNamesCard

/-- THE SECOND FORM's CARD OF 'planispherelaw01.WideNames'. -/
def wideNamesUptoCard : Claim7 := { stood := { row := wideNamesUptoRow, standIns := [], harness := (true, "268ffe5eaad32a37d4293875911a9ca7f98a5460e1941ca03c8331677e718746"), looks := false }, kinds := [], alts := [], laidByText := true, laidKinds := [.data, .pinned], laidTests := true, laidLooks := .later }
def WideNamesUptoCardSaid : Prop := Claim7.holds Tryd.pinned (.plain (OpenSpec.upto wideNamesSpec)) wideNamesUptoCard
end Rows
end Go.Proofs.YthlfidbhldbedaaDoor

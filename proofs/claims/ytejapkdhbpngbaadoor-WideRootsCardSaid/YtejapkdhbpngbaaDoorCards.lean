/-
  DERIVED. GIVEN WITH THE SEED: THE CARDS: each row of YtejapkdhbpngbaaDoorRows.lean that lists a variable, with what it lists TIED to the program's text (the seventh form; the later family's looks); each row that meets fmt, with fmt's text TOLD by the authors' own Lean function (tested against real Go, not proved from fmt's source: count such statements apart). THE CARD IS WHAT COUNTS. Prove the row's statement (the work); the ties are given (YtejapkdhbpngbaaDoorTie.lean); close each card by the builder's one call (the guide's Derived/Test/ToyasCard.lean, 'card_holds'). Laid BY PROGRAM, IN A SANDBOX (cutbox-door.mjs). By AI agents, Wed Nov 11 2026. No macro, syntax, notation, axiom, sorry.
-/
import Derived.Test.YtejapkdhbpngbaaDoorRows
import GoSem.ClaimSeven
namespace Go.Proofs.YtejapkdhbpngbaaDoor
namespace Rows

/-- THE TIED CARD OF 'planispherelaw01.WideTexts'. -/
def wideTextsCard : Claim7 := { stood := { row := wideTextsRow, standIns := [], harness := (true, "41bab44781118a82966a245166c772042e164374001b430deb8933f42c34c572"), looks := false }, kinds := [], alts := [], laidByText := true, laidKinds := [.data, .pinned], laidTests := true, laidLooks := .later }
def WideTextsCardSaid : Prop := Claim7.holds Tryd.pinned (.plain (OpenSpec.ofChange wideTextsSpec)) wideTextsCard

/-- THE TIED CARD OF 'planispherelaw01.WideDivision'. -/
def wideDivisionCard : Claim7 := { stood := { row := wideDivisionRow, standIns := [], harness := (true, "41bab44781118a82966a245166c772042e164374001b430deb8933f42c34c572"), looks := false }, kinds := [], alts := [], laidByText := true, laidKinds := [.data, .pinned], laidTests := true, laidLooks := .later }
def WideDivisionCardSaid : Prop := Claim7.holds Tryd.pinned (.plain (OpenSpec.ofChange wideDivisionSpec)) wideDivisionCard

/-- THE TIED CARD OF 'planispherelaw01.WideRing'. -/
def wideRingCard : Claim7 := { stood := { row := wideRingRow, standIns := [], harness := (true, "41bab44781118a82966a245166c772042e164374001b430deb8933f42c34c572"), looks := false }, kinds := [], alts := [], laidByText := true, laidKinds := [.data, .pinned], laidTests := true, laidLooks := .later }
def WideRingCardSaid : Prop := Claim7.holds Tryd.pinned (.plain (OpenSpec.ofChange wideRingSpec)) wideRingCard

/-- THE TIED CARD OF 'planispherelaw01.WideBack'. -/
def wideBackCard : Claim7 := { stood := { row := wideBackRow, standIns := [], harness := (true, "41bab44781118a82966a245166c772042e164374001b430deb8933f42c34c572"), looks := false }, kinds := [], alts := [], laidByText := true, laidKinds := [.data, .pinned], laidTests := true, laidLooks := .later }
def WideBackCardSaid : Prop := Claim7.holds Tryd.pinned (.plain (OpenSpec.ofChange wideBackSpec)) wideBackCard

/-- THE TIED CARD OF 'planispherelaw01.WideRoots'. -/
def wideRootsCard : Claim7 := { stood := { row := wideRootsRow, standIns := [], harness := (true, "41bab44781118a82966a245166c772042e164374001b430deb8933f42c34c572"), looks := false }, kinds := [], alts := [], laidByText := true, laidKinds := [.data, .pinned], laidTests := true, laidLooks := .later }
def WideRootsCardSaid : Prop := Claim7.holds Tryd.pinned (.plain (OpenSpec.ofChange wideRootsSpec)) wideRootsCard

/-- THE TIED CARD OF 'planispherelaw01.WideNames'. -/
def wideNamesCard : Claim7 := { stood := { row := wideNamesRow, standIns := [], harness := (true, "41bab44781118a82966a245166c772042e164374001b430deb8933f42c34c572"), looks := false }, kinds := [], alts := [], laidByText := true, laidKinds := [.data, .pinned], laidTests := true, laidLooks := .later }
def WideNamesCardSaid : Prop := Claim7.holds Tryd.pinned (.plain (OpenSpec.ofChange wideNamesSpec)) wideNamesCard

/-- THE SECOND FORM's CARD OF 'planispherelaw01.WideTexts'. -/
def wideTextsUptoCard : Claim7 := { stood := { row := wideTextsUptoRow, standIns := [], harness := (true, "41bab44781118a82966a245166c772042e164374001b430deb8933f42c34c572"), looks := false }, kinds := [], alts := [], laidByText := true, laidKinds := [.data, .pinned], laidTests := true, laidLooks := .later }
def WideTextsUptoCardSaid : Prop := Claim7.holds Tryd.pinned (.plain (OpenSpec.upto wideTextsSpec)) wideTextsUptoCard

/-- THE SECOND FORM's CARD OF 'planispherelaw01.WideDivision'. -/
def wideDivisionUptoCard : Claim7 := { stood := { row := wideDivisionUptoRow, standIns := [], harness := (true, "41bab44781118a82966a245166c772042e164374001b430deb8933f42c34c572"), looks := false }, kinds := [], alts := [], laidByText := true, laidKinds := [.data, .pinned], laidTests := true, laidLooks := .later }
def WideDivisionUptoCardSaid : Prop := Claim7.holds Tryd.pinned (.plain (OpenSpec.upto wideDivisionSpec)) wideDivisionUptoCard

/-- THE SECOND FORM's CARD OF 'planispherelaw01.WideRing'. -/
def wideRingUptoCard : Claim7 := { stood := { row := wideRingUptoRow, standIns := [], harness := (true, "41bab44781118a82966a245166c772042e164374001b430deb8933f42c34c572"), looks := false }, kinds := [], alts := [], laidByText := true, laidKinds := [.data, .pinned], laidTests := true, laidLooks := .later }
def WideRingUptoCardSaid : Prop := Claim7.holds Tryd.pinned (.plain (OpenSpec.upto wideRingSpec)) wideRingUptoCard

/-- THE SECOND FORM's CARD OF 'planispherelaw01.WideBack'. -/
def wideBackUptoCard : Claim7 := { stood := { row := wideBackUptoRow, standIns := [], harness := (true, "41bab44781118a82966a245166c772042e164374001b430deb8933f42c34c572"), looks := false }, kinds := [], alts := [], laidByText := true, laidKinds := [.data, .pinned], laidTests := true, laidLooks := .later }
def WideBackUptoCardSaid : Prop := Claim7.holds Tryd.pinned (.plain (OpenSpec.upto wideBackSpec)) wideBackUptoCard

/-- THE SECOND FORM's CARD OF 'planispherelaw01.WideRoots'. -/
def wideRootsUptoCard : Claim7 := { stood := { row := wideRootsUptoRow, standIns := [], harness := (true, "41bab44781118a82966a245166c772042e164374001b430deb8933f42c34c572"), looks := false }, kinds := [], alts := [], laidByText := true, laidKinds := [.data, .pinned], laidTests := true, laidLooks := .later }
def WideRootsUptoCardSaid : Prop := Claim7.holds Tryd.pinned (.plain (OpenSpec.upto wideRootsSpec)) wideRootsUptoCard

/-- THE SECOND FORM's CARD OF 'planispherelaw01.WideNames'. -/
def wideNamesUptoCard : Claim7 := { stood := { row := wideNamesUptoRow, standIns := [], harness := (true, "41bab44781118a82966a245166c772042e164374001b430deb8933f42c34c572"), looks := false }, kinds := [], alts := [], laidByText := true, laidKinds := [.data, .pinned], laidTests := true, laidLooks := .later }
def WideNamesUptoCardSaid : Prop := Claim7.holds Tryd.pinned (.plain (OpenSpec.upto wideNamesSpec)) wideNamesUptoCard
end Rows
end Go.Proofs.YtejapkdhbpngbaaDoor

/-
  DERIVED. GIVEN WITH THE SEED: THE CARDS: each row of YtmelbahbjdogdaaGreatDoorRows.lean that lists a variable, with what it lists TIED to the program's text (the seventh form; the later family's looks); each row that meets fmt, with fmt's text TOLD by the authors' own Lean function (tested against real Go, not proved from fmt's source: count such statements apart). THE CARD IS WHAT COUNTS. Prove the row's statement (the work); the ties are given (YtmelbahbjdogdaaGreatDoorTie.lean); close each card by the builder's one call (the guide's Derived/Test/ToyasCard.lean, 'card_holds'). Laid BY PROGRAM, IN A SANDBOX (cutbox-door.mjs). By AI agents, Wed Nov 11 2026. No macro, syntax, notation, axiom, sorry.
-/
import Derived.Test.YtmelbahbjdogdaaGreatDoorRows
import GoSem.ClaimSeven
namespace Go.Proofs.YtmelbahbjdogdaaGreatDoor
namespace Rows

/-- THE TIED CARD OF 'planispherelaw02.FracTexts'. -/
def fracTextsCard : Claim7 := { stood := { row := fracTextsRow, standIns := [], harness := (true, "311c771006644261e390303397a4bd3236e967c3dff9353f3496df674e144c35"), looks := true }, kinds := [], alts := [], laidByText := true, laidKinds := [.data, .pinned], laidTests := true, laidLooks := .later }
def FracTextsCardSaid : Prop := Claim7.holds Tryz.pinned (.plain (OpenSpec.ofChange fracTextsSpec)) fracTextsCard

/-- THE TIED CARD OF 'planispherelaw02.FracNearest'. -/
def fracNearestCard : Claim7 := { stood := { row := fracNearestRow, standIns := [], harness := (true, "311c771006644261e390303397a4bd3236e967c3dff9353f3496df674e144c35"), looks := true }, kinds := [], alts := [], laidByText := true, laidKinds := [.data, .pinned], laidTests := true, laidLooks := .later }
def FracNearestCardSaid : Prop := Claim7.holds Tryz.pinned (.plain (OpenSpec.ofChange fracNearestSpec)) fracNearestCard

/-- THE TIED CARD OF 'planispherelaw02.FracBack'. -/
def fracBackCard : Claim7 := { stood := { row := fracBackRow, standIns := [], harness := (true, "311c771006644261e390303397a4bd3236e967c3dff9353f3496df674e144c35"), looks := true }, kinds := [], alts := [], laidByText := true, laidKinds := [.data, .pinned], laidTests := true, laidLooks := .later }
def FracBackCardSaid : Prop := Claim7.holds Tryz.pinned (.plain (OpenSpec.ofChange fracBackSpec)) fracBackCard

/-- THE TIED CARD OF 'planispherelaw02.FracOrder'. -/
def fracOrderCard : Claim7 := { stood := { row := fracOrderRow, standIns := [], harness := (true, "311c771006644261e390303397a4bd3236e967c3dff9353f3496df674e144c35"), looks := true }, kinds := [], alts := [], laidByText := true, laidKinds := [.data, .pinned], laidTests := true, laidLooks := .later }
def FracOrderCardSaid : Prop := Claim7.holds Tryz.pinned (.plain (OpenSpec.ofChange fracOrderSpec)) fracOrderCard

/-- THE TIED CARD OF 'planispherelaw02.FracNames'. -/
def fracNamesCard : Claim7 := { stood := { row := fracNamesRow, standIns := [], harness := (true, "311c771006644261e390303397a4bd3236e967c3dff9353f3496df674e144c35"), looks := true }, kinds := [], alts := [], laidByText := true, laidKinds := [.data, .pinned], laidTests := true, laidLooks := .later }
def FracNamesCardSaid : Prop := Claim7.holds Tryz.pinned (.plain (OpenSpec.ofChange fracNamesSpec)) fracNamesCard

/-- THE TIED CARD OF 'planispherelaw02.FracField'. -/
def fracFieldCard : Claim7 := { stood := { row := fracFieldRow, standIns := [], harness := (true, "311c771006644261e390303397a4bd3236e967c3dff9353f3496df674e144c35"), looks := true }, kinds := [], alts := [], laidByText := true, laidKinds := [.data, .pinned], laidTests := true, laidLooks := .later }
def FracFieldCardSaid : Prop := Claim7.holds Tryz.pinned (.plain (OpenSpec.ofChange fracFieldSpec)) fracFieldCard

/-- THE SECOND FORM's CARD OF 'planispherelaw02.FracTexts'. -/
def fracTextsUptoCard : Claim7 := { stood := { row := fracTextsUptoRow, standIns := [], harness := (true, "311c771006644261e390303397a4bd3236e967c3dff9353f3496df674e144c35"), looks := true }, kinds := [], alts := [], laidByText := true, laidKinds := [.data, .pinned], laidTests := true, laidLooks := .later }
def FracTextsUptoCardSaid : Prop := Claim7.holds Tryz.pinned (.plain (OpenSpec.upto fracTextsSpec)) fracTextsUptoCard

/-- THE SECOND FORM's CARD OF 'planispherelaw02.FracNearest'. -/
def fracNearestUptoCard : Claim7 := { stood := { row := fracNearestUptoRow, standIns := [], harness := (true, "311c771006644261e390303397a4bd3236e967c3dff9353f3496df674e144c35"), looks := true }, kinds := [], alts := [], laidByText := true, laidKinds := [.data, .pinned], laidTests := true, laidLooks := .later }
def FracNearestUptoCardSaid : Prop := Claim7.holds Tryz.pinned (.plain (OpenSpec.upto fracNearestSpec)) fracNearestUptoCard

/-- THE SECOND FORM's CARD OF 'planispherelaw02.FracBack'. -/
def fracBackUptoCard : Claim7 := { stood := { row := fracBackUptoRow, standIns := [], harness := (true, "311c771006644261e390303397a4bd3236e967c3dff9353f3496df674e144c35"), looks := true }, kinds := [], alts := [], laidByText := true, laidKinds := [.data, .pinned], laidTests := true, laidLooks := .later }
def FracBackUptoCardSaid : Prop := Claim7.holds Tryz.pinned (.plain (OpenSpec.upto fracBackSpec)) fracBackUptoCard

/-- THE SECOND FORM's CARD OF 'planispherelaw02.FracOrder'. -/
def fracOrderUptoCard : Claim7 := { stood := { row := fracOrderUptoRow, standIns := [], harness := (true, "311c771006644261e390303397a4bd3236e967c3dff9353f3496df674e144c35"), looks := true }, kinds := [], alts := [], laidByText := true, laidKinds := [.data, .pinned], laidTests := true, laidLooks := .later }
def FracOrderUptoCardSaid : Prop := Claim7.holds Tryz.pinned (.plain (OpenSpec.upto fracOrderSpec)) fracOrderUptoCard

/-- THE SECOND FORM's CARD OF 'planispherelaw02.FracNames'. -/
def fracNamesUptoCard : Claim7 := { stood := { row := fracNamesUptoRow, standIns := [], harness := (true, "311c771006644261e390303397a4bd3236e967c3dff9353f3496df674e144c35"), looks := true }, kinds := [], alts := [], laidByText := true, laidKinds := [.data, .pinned], laidTests := true, laidLooks := .later }
def FracNamesUptoCardSaid : Prop := Claim7.holds Tryz.pinned (.plain (OpenSpec.upto fracNamesSpec)) fracNamesUptoCard

/-- THE SECOND FORM's CARD OF 'planispherelaw02.FracField'. -/
def fracFieldUptoCard : Claim7 := { stood := { row := fracFieldUptoRow, standIns := [], harness := (true, "311c771006644261e390303397a4bd3236e967c3dff9353f3496df674e144c35"), looks := true }, kinds := [], alts := [], laidByText := true, laidKinds := [.data, .pinned], laidTests := true, laidLooks := .later }
def FracFieldUptoCardSaid : Prop := Claim7.holds Tryz.pinned (.plain (OpenSpec.upto fracFieldSpec)) fracFieldUptoCard
end Rows
end Go.Proofs.YtmelbahbjdogdaaGreatDoor

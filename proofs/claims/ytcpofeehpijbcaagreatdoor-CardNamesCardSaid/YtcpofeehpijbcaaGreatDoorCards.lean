/-
  DERIVED. GIVEN WITH THE SEED: THE CARDS: each row of YtcpofeehpijbcaaGreatDoorRows.lean that lists a variable, with what it lists TIED to the program's text (the seventh form; the later family's looks); each row that meets fmt, with fmt's text TOLD by the authors' own Lean function (tested against real Go, not proved from fmt's source: count such statements apart). THE CARD IS WHAT COUNTS. Prove the row's statement (the work); the ties are given (YtcpofeehpijbcaaGreatDoorTie.lean); close each card by the builder's one call (the guide's Derived/Test/ToyasCard.lean, 'card_holds'). Laid BY PROGRAM, IN A SANDBOX (cutbox-door.mjs). By AI agents, Wed Nov 11 2026. No macro, syntax, notation, axiom, sorry.
-/
import Derived.Test.YtcpofeehpijbcaaGreatDoorRows
import GoSem.ClaimSeven
namespace Go.Proofs.YtcpofeehpijbcaaGreatDoor
namespace Rows

/-- THE TIED CARD OF 'planispherelaw08.CardParses'. -/
def cardParsesCard : Claim7 := { stood := { row := cardParsesRow, standIns := [], harness := (true, "badd62fab767eae59e60603435215523e0086b7635d3447f46325b2aceb09b54"), looks := true }, kinds := [], alts := [], laidByText := true, laidKinds := [.data, .data, .data, .data, .sentinel, .sentinel, .pinned], laidTests := true, laidLooks := .later }
def CardParsesCardSaid : Prop := Claim7.holds Tryz.pinned (.plain (OpenSpec.ofChange cardParsesSpec)) cardParsesCard

/-- THE TIED CARD OF 'planispherelaw08.CardPuts'. -/
def cardPutsCard : Claim7 := { stood := { row := cardPutsRow, standIns := [], harness := (true, "badd62fab767eae59e60603435215523e0086b7635d3447f46325b2aceb09b54"), looks := true }, kinds := [], alts := [], laidByText := true, laidKinds := [.data, .data, .data, .data, .sentinel, .sentinel, .pinned], laidTests := true, laidLooks := .later }
def CardPutsCardSaid : Prop := Claim7.holds Tryz.pinned (.plain (OpenSpec.ofChange cardPutsSpec)) cardPutsCard

/-- THE TIED CARD OF 'planispherelaw08.CardNumbers'. -/
def cardNumbersCard : Claim7 := { stood := { row := cardNumbersRow, standIns := [], harness := (true, "badd62fab767eae59e60603435215523e0086b7635d3447f46325b2aceb09b54"), looks := true }, kinds := [], alts := [], laidByText := true, laidKinds := [.data, .data, .data, .data, .sentinel, .sentinel, .pinned], laidTests := true, laidLooks := .later }
def CardNumbersCardSaid : Prop := Claim7.holds Tryz.pinned (.plain (OpenSpec.ofChange cardNumbersSpec)) cardNumbersCard

/-- THE TIED CARD OF 'planispherelaw09.FrameScaled'. -/
def frameScaledCard : Claim7 := { stood := { row := frameScaledRow, standIns := [], harness := (true, "badd62fab767eae59e60603435215523e0086b7635d3447f46325b2aceb09b54"), looks := true }, kinds := [], alts := [], laidByText := true, laidKinds := [.data, .data, .data, .data, .data, .pinned], laidTests := true, laidLooks := .later }
def FrameScaledCardSaid : Prop := Claim7.holds Tryz.pinned (.plain (OpenSpec.ofChange frameScaledSpec)) frameScaledCard

/-- THE TIED CARD OF 'planispherelaw08.CardNames'. -/
def cardNamesCard : Claim7 := { stood := { row := cardNamesRow, standIns := [], harness := (true, "badd62fab767eae59e60603435215523e0086b7635d3447f46325b2aceb09b54"), looks := true }, kinds := [], alts := [], laidByText := true, laidKinds := [.data, .data, .data, .data, .sentinel, .sentinel, .pinned], laidTests := true, laidLooks := .later }
def CardNamesCardSaid : Prop := Claim7.holds Tryz.pinned (.plain (OpenSpec.ofChange cardNamesSpec)) cardNamesCard

/-- THE TIED CARD OF 'planispherelaw09.FrameSpoilt'. -/
def frameSpoiltCard : Claim7 := { stood := { row := frameSpoiltRow, standIns := [], harness := (true, "badd62fab767eae59e60603435215523e0086b7635d3447f46325b2aceb09b54"), looks := true }, kinds := [], alts := [], laidByText := true, laidKinds := [.data, .data, .data, .data, .sentinel, .sentinel, .data, .pinned], laidTests := true, laidLooks := .later }
def FrameSpoiltCardSaid : Prop := Claim7.holds Tryz.pinned (.plain (OpenSpec.ofChange frameSpoiltSpec)) frameSpoiltCard

/-- THE TIED CARD OF 'planispherelaw09.FrameNames'. -/
def frameNamesCard : Claim7 := { stood := { row := frameNamesRow, standIns := [], harness := (true, "badd62fab767eae59e60603435215523e0086b7635d3447f46325b2aceb09b54"), looks := true }, kinds := [], alts := [], laidByText := true, laidKinds := [.data, .data, .data, .data, .sentinel, .sentinel, .data, .pinned], laidTests := true, laidLooks := .later }
def FrameNamesCardSaid : Prop := Claim7.holds Tryz.pinned (.plain (OpenSpec.ofChange frameNamesSpec)) frameNamesCard

/-- THE SECOND FORM's CARD OF 'planispherelaw08.CardParses'. -/
def cardParsesUptoCard : Claim7 := { stood := { row := cardParsesUptoRow, standIns := [], harness := (true, "badd62fab767eae59e60603435215523e0086b7635d3447f46325b2aceb09b54"), looks := true }, kinds := [], alts := [], laidByText := true, laidKinds := [.data, .data, .data, .data, .sentinel, .sentinel, .pinned], laidTests := true, laidLooks := .later }
def CardParsesUptoCardSaid : Prop := Claim7.holds Tryz.pinned (.plain (OpenSpec.upto cardParsesSpec)) cardParsesUptoCard

/-- THE SECOND FORM's CARD OF 'planispherelaw08.CardPuts'. -/
def cardPutsUptoCard : Claim7 := { stood := { row := cardPutsUptoRow, standIns := [], harness := (true, "badd62fab767eae59e60603435215523e0086b7635d3447f46325b2aceb09b54"), looks := true }, kinds := [], alts := [], laidByText := true, laidKinds := [.data, .data, .data, .data, .sentinel, .sentinel, .pinned], laidTests := true, laidLooks := .later }
def CardPutsUptoCardSaid : Prop := Claim7.holds Tryz.pinned (.plain (OpenSpec.upto cardPutsSpec)) cardPutsUptoCard

/-- THE SECOND FORM's CARD OF 'planispherelaw08.CardNumbers'. -/
def cardNumbersUptoCard : Claim7 := { stood := { row := cardNumbersUptoRow, standIns := [], harness := (true, "badd62fab767eae59e60603435215523e0086b7635d3447f46325b2aceb09b54"), looks := true }, kinds := [], alts := [], laidByText := true, laidKinds := [.data, .data, .data, .data, .sentinel, .sentinel, .pinned], laidTests := true, laidLooks := .later }
def CardNumbersUptoCardSaid : Prop := Claim7.holds Tryz.pinned (.plain (OpenSpec.upto cardNumbersSpec)) cardNumbersUptoCard

/-- THE SECOND FORM's CARD OF 'planispherelaw09.FrameScaled'. -/
def frameScaledUptoCard : Claim7 := { stood := { row := frameScaledUptoRow, standIns := [], harness := (true, "badd62fab767eae59e60603435215523e0086b7635d3447f46325b2aceb09b54"), looks := true }, kinds := [], alts := [], laidByText := true, laidKinds := [.data, .data, .data, .data, .data, .pinned], laidTests := true, laidLooks := .later }
def FrameScaledUptoCardSaid : Prop := Claim7.holds Tryz.pinned (.plain (OpenSpec.upto frameScaledSpec)) frameScaledUptoCard

/-- THE SECOND FORM's CARD OF 'planispherelaw08.CardNames'. -/
def cardNamesUptoCard : Claim7 := { stood := { row := cardNamesUptoRow, standIns := [], harness := (true, "badd62fab767eae59e60603435215523e0086b7635d3447f46325b2aceb09b54"), looks := true }, kinds := [], alts := [], laidByText := true, laidKinds := [.data, .data, .data, .data, .sentinel, .sentinel, .pinned], laidTests := true, laidLooks := .later }
def CardNamesUptoCardSaid : Prop := Claim7.holds Tryz.pinned (.plain (OpenSpec.upto cardNamesSpec)) cardNamesUptoCard

/-- THE SECOND FORM's CARD OF 'planispherelaw09.FrameSpoilt'. -/
def frameSpoiltUptoCard : Claim7 := { stood := { row := frameSpoiltUptoRow, standIns := [], harness := (true, "badd62fab767eae59e60603435215523e0086b7635d3447f46325b2aceb09b54"), looks := true }, kinds := [], alts := [], laidByText := true, laidKinds := [.data, .data, .data, .data, .sentinel, .sentinel, .data, .pinned], laidTests := true, laidLooks := .later }
def FrameSpoiltUptoCardSaid : Prop := Claim7.holds Tryz.pinned (.plain (OpenSpec.upto frameSpoiltSpec)) frameSpoiltUptoCard

/-- THE SECOND FORM's CARD OF 'planispherelaw09.FrameNames'. -/
def frameNamesUptoCard : Claim7 := { stood := { row := frameNamesUptoRow, standIns := [], harness := (true, "badd62fab767eae59e60603435215523e0086b7635d3447f46325b2aceb09b54"), looks := true }, kinds := [], alts := [], laidByText := true, laidKinds := [.data, .data, .data, .data, .sentinel, .sentinel, .data, .pinned], laidTests := true, laidLooks := .later }
def FrameNamesUptoCardSaid : Prop := Claim7.holds Tryz.pinned (.plain (OpenSpec.upto frameNamesSpec)) frameNamesUptoCard
end Rows
end Go.Proofs.YtcpofeehpijbcaaGreatDoor

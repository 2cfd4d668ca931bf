/-
  DERIVED. GIVEN WITH THE SEED: THE CARDS: each row of YtgkamalgokebgaaDoorRows.lean that lists a variable, with what it lists TIED to the program's text (the seventh form; the later family's looks); each row that meets fmt, with fmt's text TOLD by the authors' own Lean function (tested against real Go, not proved from fmt's source: count such statements apart). THE CARD IS WHAT COUNTS. Prove the row's statement (the work); the ties are given (YtgkamalgokebgaaDoorTie.lean); close each card by the builder's one call (the guide's Derived/Test/ToyasCard.lean, 'card_holds'). Laid BY PROGRAM, IN A SANDBOX (cutbox-door.mjs). By AI agents, Wed Nov 11 2026. No macro, syntax, notation, axiom, sorry.
-/
import Derived.Test.YtgkamalgokebgaaDoorRows
import GoSem.ClaimSeven
namespace Go.Proofs.YtgkamalgokebgaaDoor
namespace Rows

/-- THE TIED CARD OF 'planispherelaw09.FrameCodes'. -/
def frameCodesCard : Claim7 := { stood := { row := frameCodesRow, standIns := [], harness := (true, "238eb2fddc093b3bf7c922c05c7a78dedd4945f69018ecaec907052882d5ed9e"), looks := false }, kinds := [], alts := [], laidByText := true, laidKinds := [.data, .data, .data, .data, .data, .pinned], laidTests := true, laidLooks := .later }
def FrameCodesCardSaid : Prop := Claim7.holds Tryd.pinned (.plain (OpenSpec.ofChange frameCodesSpec)) frameCodesCard

/-- THE TIED CARD OF 'planispherelaw09.FrameSums'. -/
def frameSumsCard : Claim7 := { stood := { row := frameSumsRow, standIns := [], harness := (true, "238eb2fddc093b3bf7c922c05c7a78dedd4945f69018ecaec907052882d5ed9e"), looks := false }, kinds := [], alts := [], laidByText := true, laidKinds := [.data, .data, .data, .data, .data, .pinned], laidTests := true, laidLooks := .later }
def FrameSumsCardSaid : Prop := Claim7.holds Tryd.pinned (.plain (OpenSpec.ofChange frameSumsSpec)) frameSumsCard

/-- THE SECOND FORM's CARD OF 'planispherelaw09.FrameCodes'. -/
def frameCodesUptoCard : Claim7 := { stood := { row := frameCodesUptoRow, standIns := [], harness := (true, "238eb2fddc093b3bf7c922c05c7a78dedd4945f69018ecaec907052882d5ed9e"), looks := false }, kinds := [], alts := [], laidByText := true, laidKinds := [.data, .data, .data, .data, .data, .pinned], laidTests := true, laidLooks := .later }
def FrameCodesUptoCardSaid : Prop := Claim7.holds Tryd.pinned (.plain (OpenSpec.upto frameCodesSpec)) frameCodesUptoCard

/-- THE SECOND FORM's CARD OF 'planispherelaw09.FrameSums'. -/
def frameSumsUptoCard : Claim7 := { stood := { row := frameSumsUptoRow, standIns := [], harness := (true, "238eb2fddc093b3bf7c922c05c7a78dedd4945f69018ecaec907052882d5ed9e"), looks := false }, kinds := [], alts := [], laidByText := true, laidKinds := [.data, .data, .data, .data, .data, .pinned], laidTests := true, laidLooks := .later }
def FrameSumsUptoCardSaid : Prop := Claim7.holds Tryd.pinned (.plain (OpenSpec.upto frameSumsSpec)) frameSumsUptoCard
end Rows
end Go.Proofs.YtgkamalgokebgaaDoor

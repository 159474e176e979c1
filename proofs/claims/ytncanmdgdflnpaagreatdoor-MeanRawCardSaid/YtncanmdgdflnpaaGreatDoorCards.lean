/-
  DERIVED. GIVEN WITH THE SEED: THE CARDS: each row of YtncanmdgdflnpaaGreatDoorRows.lean that lists a variable, with what it lists TIED to the program's text (the seventh form; the later family's looks); each row that meets fmt, with fmt's text TOLD by the authors' own Lean function (tested against real Go, not proved from fmt's source: count such statements apart). THE CARD IS WHAT COUNTS. Prove the row's statement (the work); the ties are given (YtncanmdgdflnpaaGreatDoorTie.lean); close each card by the builder's one call (the guide's Derived/Test/ToyasCard.lean, 'card_holds'). Laid BY PROGRAM, IN A SANDBOX (cutbox-door.mjs). By AI agents, Wed Nov 11 2026. No macro, syntax, notation, axiom, sorry.
-/
import Derived.Test.YtncanmdgdflnpaaGreatDoorRows
import GoSem.ClaimSeven
namespace Go.Proofs.YtncanmdgdflnpaaGreatDoor
namespace Rows

/-- THE TIED CARD OF 'agoralaw32.MeanTells'. -/
def meanTellsCard : Claim7 := { stood := { row := meanTellsRow, standIns := [], harness := (true, "8508d1e88098ee844df6fc1fdda0b9b90048e061b3d5640b8ec64b0f9ee913ba"), looks := true }, kinds := [], alts := [], laidByText := true, laidKinds := [.data, .data, .data, .sentinel, .sentinel], laidTests := true, laidLooks := .later }
def MeanTellsCardSaid : Prop := Claim7.holds Tryz.pinned (.plain (OpenSpec.ofChange meanTellsSpec)) meanTellsCard

/-- THE TIED CARD OF 'agoralaw32.MeanSplits'. -/
def meanSplitsCard : Claim7 := { stood := { row := meanSplitsRow, standIns := [], harness := (true, "8508d1e88098ee844df6fc1fdda0b9b90048e061b3d5640b8ec64b0f9ee913ba"), looks := true }, kinds := [], alts := [], laidByText := true, laidKinds := [.data, .data, .data, .sentinel, .sentinel], laidTests := true, laidLooks := .later }
def MeanSplitsCardSaid : Prop := Claim7.holds Tryz.pinned (.plain (OpenSpec.ofChange meanSplitsSpec)) meanSplitsCard

/-- THE TIED CARD OF 'agoralaw32.MeanDepends'. -/
def meanDependsCard : Claim7 := { stood := { row := meanDependsRow, standIns := [], harness := (true, "8508d1e88098ee844df6fc1fdda0b9b90048e061b3d5640b8ec64b0f9ee913ba"), looks := true }, kinds := [], alts := [], laidByText := true, laidKinds := [.data, .data, .data, .sentinel, .sentinel], laidTests := true, laidLooks := .later }
def MeanDependsCardSaid : Prop := Claim7.holds Tryz.pinned (.plain (OpenSpec.ofChange meanDependsSpec)) meanDependsCard

/-- THE TIED CARD OF 'agoralaw32.MeanLogic'. -/
def meanLogicCard : Claim7 := { stood := { row := meanLogicRow, standIns := [], harness := (true, "8508d1e88098ee844df6fc1fdda0b9b90048e061b3d5640b8ec64b0f9ee913ba"), looks := true }, kinds := [], alts := [], laidByText := true, laidKinds := [.data, .data, .data, .sentinel, .sentinel], laidTests := true, laidLooks := .later }
def MeanLogicCardSaid : Prop := Claim7.holds Tryz.pinned (.plain (OpenSpec.ofChange meanLogicSpec)) meanLogicCard

/-- THE TIED CARD OF 'agoralaw32.MeanSums'. -/
def meanSumsCard : Claim7 := { stood := { row := meanSumsRow, standIns := [], harness := (true, "8508d1e88098ee844df6fc1fdda0b9b90048e061b3d5640b8ec64b0f9ee913ba"), looks := true }, kinds := [], alts := [], laidByText := true, laidKinds := [.data, .data, .data, .sentinel, .sentinel], laidTests := true, laidLooks := .later }
def MeanSumsCardSaid : Prop := Claim7.holds Tryz.pinned (.plain (OpenSpec.ofChange meanSumsSpec)) meanSumsCard

/-- THE TIED CARD OF 'agoralaw32.MeanEnds'. -/
def meanEndsCard : Claim7 := { stood := { row := meanEndsRow, standIns := [], harness := (true, "8508d1e88098ee844df6fc1fdda0b9b90048e061b3d5640b8ec64b0f9ee913ba"), looks := true }, kinds := [], alts := [], laidByText := true, laidKinds := [.data, .data, .data, .sentinel, .sentinel], laidTests := true, laidLooks := .later }
def MeanEndsCardSaid : Prop := Claim7.holds Tryz.pinned (.plain (OpenSpec.ofChange meanEndsSpec)) meanEndsCard

/-- THE TIED CARD OF 'agoralaw32.MeanRaw'. -/
def meanRawCard : Claim7 := { stood := { row := meanRawRow, standIns := [], harness := (true, "8508d1e88098ee844df6fc1fdda0b9b90048e061b3d5640b8ec64b0f9ee913ba"), looks := true }, kinds := [], alts := [], laidByText := true, laidKinds := [.data, .data, .data, .sentinel, .sentinel], laidTests := true, laidLooks := .later }
def MeanRawCardSaid : Prop := Claim7.holds Tryz.pinned (.plain (OpenSpec.ofChange meanRawSpec)) meanRawCard

/-- THE SECOND FORM's CARD OF 'agoralaw32.MeanTells'. -/
def meanTellsUptoCard : Claim7 := { stood := { row := meanTellsUptoRow, standIns := [], harness := (true, "8508d1e88098ee844df6fc1fdda0b9b90048e061b3d5640b8ec64b0f9ee913ba"), looks := true }, kinds := [], alts := [], laidByText := true, laidKinds := [.data, .data, .data, .sentinel, .sentinel], laidTests := true, laidLooks := .later }
def MeanTellsUptoCardSaid : Prop := Claim7.holds Tryz.pinned (.plain (OpenSpec.upto meanTellsSpec)) meanTellsUptoCard

/-- THE SECOND FORM's CARD OF 'agoralaw32.MeanSplits'. -/
def meanSplitsUptoCard : Claim7 := { stood := { row := meanSplitsUptoRow, standIns := [], harness := (true, "8508d1e88098ee844df6fc1fdda0b9b90048e061b3d5640b8ec64b0f9ee913ba"), looks := true }, kinds := [], alts := [], laidByText := true, laidKinds := [.data, .data, .data, .sentinel, .sentinel], laidTests := true, laidLooks := .later }
def MeanSplitsUptoCardSaid : Prop := Claim7.holds Tryz.pinned (.plain (OpenSpec.upto meanSplitsSpec)) meanSplitsUptoCard

/-- THE SECOND FORM's CARD OF 'agoralaw32.MeanDepends'. -/
def meanDependsUptoCard : Claim7 := { stood := { row := meanDependsUptoRow, standIns := [], harness := (true, "8508d1e88098ee844df6fc1fdda0b9b90048e061b3d5640b8ec64b0f9ee913ba"), looks := true }, kinds := [], alts := [], laidByText := true, laidKinds := [.data, .data, .data, .sentinel, .sentinel], laidTests := true, laidLooks := .later }
def MeanDependsUptoCardSaid : Prop := Claim7.holds Tryz.pinned (.plain (OpenSpec.upto meanDependsSpec)) meanDependsUptoCard

/-- THE SECOND FORM's CARD OF 'agoralaw32.MeanLogic'. -/
def meanLogicUptoCard : Claim7 := { stood := { row := meanLogicUptoRow, standIns := [], harness := (true, "8508d1e88098ee844df6fc1fdda0b9b90048e061b3d5640b8ec64b0f9ee913ba"), looks := true }, kinds := [], alts := [], laidByText := true, laidKinds := [.data, .data, .data, .sentinel, .sentinel], laidTests := true, laidLooks := .later }
def MeanLogicUptoCardSaid : Prop := Claim7.holds Tryz.pinned (.plain (OpenSpec.upto meanLogicSpec)) meanLogicUptoCard

/-- THE SECOND FORM's CARD OF 'agoralaw32.MeanSums'. -/
def meanSumsUptoCard : Claim7 := { stood := { row := meanSumsUptoRow, standIns := [], harness := (true, "8508d1e88098ee844df6fc1fdda0b9b90048e061b3d5640b8ec64b0f9ee913ba"), looks := true }, kinds := [], alts := [], laidByText := true, laidKinds := [.data, .data, .data, .sentinel, .sentinel], laidTests := true, laidLooks := .later }
def MeanSumsUptoCardSaid : Prop := Claim7.holds Tryz.pinned (.plain (OpenSpec.upto meanSumsSpec)) meanSumsUptoCard

/-- THE SECOND FORM's CARD OF 'agoralaw32.MeanEnds'. -/
def meanEndsUptoCard : Claim7 := { stood := { row := meanEndsUptoRow, standIns := [], harness := (true, "8508d1e88098ee844df6fc1fdda0b9b90048e061b3d5640b8ec64b0f9ee913ba"), looks := true }, kinds := [], alts := [], laidByText := true, laidKinds := [.data, .data, .data, .sentinel, .sentinel], laidTests := true, laidLooks := .later }
def MeanEndsUptoCardSaid : Prop := Claim7.holds Tryz.pinned (.plain (OpenSpec.upto meanEndsSpec)) meanEndsUptoCard

/-- THE SECOND FORM's CARD OF 'agoralaw32.MeanRaw'. -/
def meanRawUptoCard : Claim7 := { stood := { row := meanRawUptoRow, standIns := [], harness := (true, "8508d1e88098ee844df6fc1fdda0b9b90048e061b3d5640b8ec64b0f9ee913ba"), looks := true }, kinds := [], alts := [], laidByText := true, laidKinds := [.data, .data, .data, .sentinel, .sentinel], laidTests := true, laidLooks := .later }
def MeanRawUptoCardSaid : Prop := Claim7.holds Tryz.pinned (.plain (OpenSpec.upto meanRawSpec)) meanRawUptoCard
end Rows
end Go.Proofs.YtncanmdgdflnpaaGreatDoor

/-
  DERIVED. GIVEN WITH THE SEED: THE CARDS: each row of YtjcaaiikccnpeaaDoorRows.lean that lists a variable, with what it lists TIED to the program's text (the seventh form; the later family's looks); each row that meets fmt, with fmt's text TOLD by the authors' own Lean function (tested against real Go, not proved from fmt's source: count such statements apart). THE CARD IS WHAT COUNTS. Prove the row's statement (the work); the ties are given (YtjcaaiikccnpeaaDoorTie.lean); close each card by the builder's one call (the guide's Derived/Test/ToyasCard.lean, 'card_holds'). Laid BY PROGRAM, IN A SANDBOX (cutbox-door.mjs). By AI agents, Wed Nov 11 2026. No macro, syntax, notation, axiom, sorry.
-/
import Derived.Test.YtjcaaiikccnpeaaDoorRows
import GoSem.ClaimSeven
namespace Go.Proofs.YtjcaaiikccnpeaaDoor
namespace Rows

/-- THE TIED CARD OF 'agoralaw39.RankReads'. -/
def rankReadsCard : Claim7 := { stood := { row := rankReadsRow, standIns := [], harness := (true, "80dd5cea5611ca5549044f14cc05730622b0290ec1859038ca30ab78081e15e9"), looks := true }, kinds := [], alts := [], laidByText := true, laidKinds := [.data, .data, .data, .data, .sentinel, .sentinel, .pinned], laidTests := true, laidLooks := .later }
def RankReadsCardSaid : Prop := Claim7.holds Tryd.pinned (.plain (OpenSpec.ofChange rankReadsSpec)) rankReadsCard

/-- THE TIED CARD OF 'agoralaw39.RankMoves'. -/
def rankMovesCard : Claim7 := { stood := { row := rankMovesRow, standIns := [], harness := (true, "80dd5cea5611ca5549044f14cc05730622b0290ec1859038ca30ab78081e15e9"), looks := true }, kinds := [], alts := [], laidByText := true, laidKinds := [.data, .data, .data, .data, .sentinel, .sentinel, .pinned], laidTests := true, laidLooks := .later }
def RankMovesCardSaid : Prop := Claim7.holds Tryd.pinned (.plain (OpenSpec.ofChange rankMovesSpec)) rankMovesCard

/-- THE TIED CARD OF 'agoralaw39.RankTells'. -/
def rankTellsCard : Claim7 := { stood := { row := rankTellsRow, standIns := [], harness := (true, "80dd5cea5611ca5549044f14cc05730622b0290ec1859038ca30ab78081e15e9"), looks := true }, kinds := [], alts := [], laidByText := true, laidKinds := [.data, .data, .data, .data, .sentinel, .sentinel, .pinned], laidTests := true, laidLooks := .later }
def RankTellsCardSaid : Prop := Claim7.holds Tryd.pinned (.plain (OpenSpec.ofChange rankTellsSpec)) rankTellsCard

/-- THE TIED CARD OF 'agoralaw39.RankSorts'. -/
def rankSortsCard : Claim7 := { stood := { row := rankSortsRow, standIns := [], harness := (true, "80dd5cea5611ca5549044f14cc05730622b0290ec1859038ca30ab78081e15e9"), looks := true }, kinds := [], alts := [], laidByText := true, laidKinds := [.data, .data, .data, .data, .sentinel, .sentinel, .pinned], laidTests := true, laidLooks := .later }
def RankSortsCardSaid : Prop := Claim7.holds Tryd.pinned (.plain (OpenSpec.ofChange rankSortsSpec)) rankSortsCard

/-- THE TIED CARD OF 'agoralaw39.RankOrders'. -/
def rankOrdersCard : Claim7 := { stood := { row := rankOrdersRow, standIns := [], harness := (true, "80dd5cea5611ca5549044f14cc05730622b0290ec1859038ca30ab78081e15e9"), looks := true }, kinds := [], alts := [], laidByText := true, laidKinds := [.data, .data, .data, .data, .sentinel, .sentinel, .pinned], laidTests := true, laidLooks := .later }
def RankOrdersCardSaid : Prop := Claim7.holds Tryd.pinned (.plain (OpenSpec.ofChange rankOrdersSpec)) rankOrdersCard

/-- THE SECOND FORM's CARD OF 'agoralaw39.RankReads'. -/
def rankReadsUptoCard : Claim7 := { stood := { row := rankReadsUptoRow, standIns := [], harness := (true, "80dd5cea5611ca5549044f14cc05730622b0290ec1859038ca30ab78081e15e9"), looks := true }, kinds := [], alts := [], laidByText := true, laidKinds := [.data, .data, .data, .data, .sentinel, .sentinel, .pinned], laidTests := true, laidLooks := .later }
def RankReadsUptoCardSaid : Prop := Claim7.holds Tryd.pinned (.plain (OpenSpec.upto rankReadsSpec)) rankReadsUptoCard

/-- THE SECOND FORM's CARD OF 'agoralaw39.RankMoves'. -/
def rankMovesUptoCard : Claim7 := { stood := { row := rankMovesUptoRow, standIns := [], harness := (true, "80dd5cea5611ca5549044f14cc05730622b0290ec1859038ca30ab78081e15e9"), looks := true }, kinds := [], alts := [], laidByText := true, laidKinds := [.data, .data, .data, .data, .sentinel, .sentinel, .pinned], laidTests := true, laidLooks := .later }
def RankMovesUptoCardSaid : Prop := Claim7.holds Tryd.pinned (.plain (OpenSpec.upto rankMovesSpec)) rankMovesUptoCard

/-- THE SECOND FORM's CARD OF 'agoralaw39.RankTells'. -/
def rankTellsUptoCard : Claim7 := { stood := { row := rankTellsUptoRow, standIns := [], harness := (true, "80dd5cea5611ca5549044f14cc05730622b0290ec1859038ca30ab78081e15e9"), looks := true }, kinds := [], alts := [], laidByText := true, laidKinds := [.data, .data, .data, .data, .sentinel, .sentinel, .pinned], laidTests := true, laidLooks := .later }
def RankTellsUptoCardSaid : Prop := Claim7.holds Tryd.pinned (.plain (OpenSpec.upto rankTellsSpec)) rankTellsUptoCard

/-- THE SECOND FORM's CARD OF 'agoralaw39.RankSorts'. -/
def rankSortsUptoCard : Claim7 := { stood := { row := rankSortsUptoRow, standIns := [], harness := (true, "80dd5cea5611ca5549044f14cc05730622b0290ec1859038ca30ab78081e15e9"), looks := true }, kinds := [], alts := [], laidByText := true, laidKinds := [.data, .data, .data, .data, .sentinel, .sentinel, .pinned], laidTests := true, laidLooks := .later }
def RankSortsUptoCardSaid : Prop := Claim7.holds Tryd.pinned (.plain (OpenSpec.upto rankSortsSpec)) rankSortsUptoCard

/-- THE SECOND FORM's CARD OF 'agoralaw39.RankOrders'. -/
def rankOrdersUptoCard : Claim7 := { stood := { row := rankOrdersUptoRow, standIns := [], harness := (true, "80dd5cea5611ca5549044f14cc05730622b0290ec1859038ca30ab78081e15e9"), looks := true }, kinds := [], alts := [], laidByText := true, laidKinds := [.data, .data, .data, .data, .sentinel, .sentinel, .pinned], laidTests := true, laidLooks := .later }
def RankOrdersUptoCardSaid : Prop := Claim7.holds Tryd.pinned (.plain (OpenSpec.upto rankOrdersSpec)) rankOrdersUptoCard
end Rows
end Go.Proofs.YtjcaaiikccnpeaaDoor

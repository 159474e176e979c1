/-
  DERIVED. GIVEN WITH THE SEED: THE CARDS: each row of YtfafpklefknomaaGreatDoorRows.lean that lists a variable, with what it lists TIED to the program's text (the seventh form; the later family's looks); each row that meets fmt, with fmt's text TOLD by the authors' own Lean function (tested against real Go, not proved from fmt's source: count such statements apart). THE CARD IS WHAT COUNTS. Prove the row's statement (the work); the ties are given (YtfafpklefknomaaGreatDoorTie.lean); close each card by the builder's one call (the guide's Derived/Test/ToyasCard.lean, 'card_holds'). Laid BY PROGRAM, IN A SANDBOX (cutbox-door.mjs). By AI agents, Wed Nov 11 2026. No macro, syntax, notation, axiom, sorry.
-/
import Derived.Test.YtfafpklefknomaaGreatDoorRows
import GoSem.ClaimSeven
namespace Go.Proofs.YtfafpklefknomaaGreatDoor
namespace Rows

/-- THE TIED CARD OF 'agoralaw33.VmForms'. -/
def vmFormsCard : Claim7 := { stood := { row := vmFormsRow, standIns := [], harness := (true, "c573b91482fd6b8a772737d294aaa2fd4cd42aa7bdd6a57ff6af265af274f823"), looks := true }, kinds := [], alts := [], laidByText := true, laidKinds := [.data, .data, .data, .sentinel, .sentinel], laidTests := true, laidLooks := .later }
def VmFormsCardSaid : Prop := Claim7.holds Tryz.pinned (.plain (OpenSpec.ofChange vmFormsSpec)) vmFormsCard

/-- THE TIED CARD OF 'agoralaw33.VmRefuses'. -/
def vmRefusesCard : Claim7 := { stood := { row := vmRefusesRow, standIns := [], harness := (true, "c573b91482fd6b8a772737d294aaa2fd4cd42aa7bdd6a57ff6af265af274f823"), looks := true }, kinds := [], alts := [], laidByText := true, laidKinds := [.data, .data, .data, .sentinel, .sentinel], laidTests := true, laidLooks := .later }
def VmRefusesCardSaid : Prop := Claim7.holds Tryz.pinned (.plain (OpenSpec.ofChange vmRefusesSpec)) vmRefusesCard

/-- THE TIED CARD OF 'agoralaw33.VmParts'. -/
def vmPartsCard : Claim7 := { stood := { row := vmPartsRow, standIns := [], harness := (true, "c573b91482fd6b8a772737d294aaa2fd4cd42aa7bdd6a57ff6af265af274f823"), looks := true }, kinds := [], alts := [], laidByText := true, laidKinds := [.data, .data, .data, .sentinel, .sentinel], laidTests := true, laidLooks := .later }
def VmPartsCardSaid : Prop := Claim7.holds Tryz.pinned (.plain (OpenSpec.ofChange vmPartsSpec)) vmPartsCard

/-- THE TIED CARD OF 'agoralaw33.VmMeans'. -/
def vmMeansCard : Claim7 := { stood := { row := vmMeansRow, standIns := [], harness := (true, "c573b91482fd6b8a772737d294aaa2fd4cd42aa7bdd6a57ff6af265af274f823"), looks := true }, kinds := [], alts := [], laidByText := true, laidKinds := [.data, .data, .data, .sentinel, .sentinel], laidTests := true, laidLooks := .later }
def VmMeansCardSaid : Prop := Claim7.holds Tryz.pinned (.plain (OpenSpec.ofChange vmMeansSpec)) vmMeansCard

/-- THE TIED CARD OF 'agoralaw33.VmNames'. -/
def vmNamesCard : Claim7 := { stood := { row := vmNamesRow, standIns := [], harness := (true, "c573b91482fd6b8a772737d294aaa2fd4cd42aa7bdd6a57ff6af265af274f823"), looks := true }, kinds := [], alts := [], laidByText := true, laidKinds := [.data, .data, .data, .sentinel, .sentinel], laidTests := true, laidLooks := .later }
def VmNamesCardSaid : Prop := Claim7.holds Tryz.pinned (.plain (OpenSpec.ofChange vmNamesSpec)) vmNamesCard

/-- THE SECOND FORM's CARD OF 'agoralaw33.VmForms'. -/
def vmFormsUptoCard : Claim7 := { stood := { row := vmFormsUptoRow, standIns := [], harness := (true, "c573b91482fd6b8a772737d294aaa2fd4cd42aa7bdd6a57ff6af265af274f823"), looks := true }, kinds := [], alts := [], laidByText := true, laidKinds := [.data, .data, .data, .sentinel, .sentinel], laidTests := true, laidLooks := .later }
def VmFormsUptoCardSaid : Prop := Claim7.holds Tryz.pinned (.plain (OpenSpec.upto vmFormsSpec)) vmFormsUptoCard

/-- THE SECOND FORM's CARD OF 'agoralaw33.VmRefuses'. -/
def vmRefusesUptoCard : Claim7 := { stood := { row := vmRefusesUptoRow, standIns := [], harness := (true, "c573b91482fd6b8a772737d294aaa2fd4cd42aa7bdd6a57ff6af265af274f823"), looks := true }, kinds := [], alts := [], laidByText := true, laidKinds := [.data, .data, .data, .sentinel, .sentinel], laidTests := true, laidLooks := .later }
def VmRefusesUptoCardSaid : Prop := Claim7.holds Tryz.pinned (.plain (OpenSpec.upto vmRefusesSpec)) vmRefusesUptoCard

/-- THE SECOND FORM's CARD OF 'agoralaw33.VmParts'. -/
def vmPartsUptoCard : Claim7 := { stood := { row := vmPartsUptoRow, standIns := [], harness := (true, "c573b91482fd6b8a772737d294aaa2fd4cd42aa7bdd6a57ff6af265af274f823"), looks := true }, kinds := [], alts := [], laidByText := true, laidKinds := [.data, .data, .data, .sentinel, .sentinel], laidTests := true, laidLooks := .later }
def VmPartsUptoCardSaid : Prop := Claim7.holds Tryz.pinned (.plain (OpenSpec.upto vmPartsSpec)) vmPartsUptoCard

/-- THE SECOND FORM's CARD OF 'agoralaw33.VmMeans'. -/
def vmMeansUptoCard : Claim7 := { stood := { row := vmMeansUptoRow, standIns := [], harness := (true, "c573b91482fd6b8a772737d294aaa2fd4cd42aa7bdd6a57ff6af265af274f823"), looks := true }, kinds := [], alts := [], laidByText := true, laidKinds := [.data, .data, .data, .sentinel, .sentinel], laidTests := true, laidLooks := .later }
def VmMeansUptoCardSaid : Prop := Claim7.holds Tryz.pinned (.plain (OpenSpec.upto vmMeansSpec)) vmMeansUptoCard

/-- THE SECOND FORM's CARD OF 'agoralaw33.VmNames'. -/
def vmNamesUptoCard : Claim7 := { stood := { row := vmNamesUptoRow, standIns := [], harness := (true, "c573b91482fd6b8a772737d294aaa2fd4cd42aa7bdd6a57ff6af265af274f823"), looks := true }, kinds := [], alts := [], laidByText := true, laidKinds := [.data, .data, .data, .sentinel, .sentinel], laidTests := true, laidLooks := .later }
def VmNamesUptoCardSaid : Prop := Claim7.holds Tryz.pinned (.plain (OpenSpec.upto vmNamesSpec)) vmNamesUptoCard
end Rows
end Go.Proofs.YtfafpklefknomaaGreatDoor

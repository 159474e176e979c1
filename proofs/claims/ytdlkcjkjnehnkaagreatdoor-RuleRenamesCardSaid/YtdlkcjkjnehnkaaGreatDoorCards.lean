/-
  DERIVED. GIVEN WITH THE SEED: THE CARDS: each row of YtdlkcjkjnehnkaaGreatDoorRows.lean that lists a variable, with what it lists TIED to the program's text (the seventh form; the later family's looks); each row that meets fmt, with fmt's text TOLD by the authors' own Lean function (tested against real Go, not proved from fmt's source: count such statements apart). THE CARD IS WHAT COUNTS. Prove the row's statement (the work); the ties are given (YtdlkcjkjnehnkaaGreatDoorTie.lean); close each card by the builder's one call (the guide's Derived/Test/ToyasCard.lean, 'card_holds'). Laid BY PROGRAM, IN A SANDBOX (cutbox-door.mjs). By AI agents, Wed Nov 11 2026. No macro, syntax, notation, axiom, sorry.
-/
import Derived.Test.YtdlkcjkjnehnkaaGreatDoorRows
import GoSem.ClaimSeven
namespace Go.Proofs.YtdlkcjkjnehnkaaGreatDoor
namespace Rows

/-- THE TIED CARD OF 'agoralaw31.RuleGroups'. -/
def ruleGroupsCard : Claim7 := { stood := { row := ruleGroupsRow, standIns := [], harness := (true, "0e561d084001cd13431b698fc29d6af0d792d1a592a366644759c5e6d44678d7"), looks := true }, kinds := [], alts := [], laidByText := true, laidKinds := [.data, .data, .data, .sentinel, .sentinel], laidTests := true, laidLooks := .later }
def RuleGroupsCardSaid : Prop := Claim7.holds Tryz.pinned (.plain (OpenSpec.ofChange ruleGroupsSpec)) ruleGroupsCard

/-- THE TIED CARD OF 'agoralaw31.RuleErrors'. -/
def ruleErrorsCard : Claim7 := { stood := { row := ruleErrorsRow, standIns := [], harness := (true, "0e561d084001cd13431b698fc29d6af0d792d1a592a366644759c5e6d44678d7"), looks := true }, kinds := [], alts := [], laidByText := true, laidKinds := [.data, .data, .data, .sentinel, .sentinel], laidTests := true, laidLooks := .later }
def RuleErrorsCardSaid : Prop := Claim7.holds Tryz.pinned (.plain (OpenSpec.ofChange ruleErrorsSpec)) ruleErrorsCard

/-- THE TIED CARD OF 'agoralaw31.RuleBack'. -/
def ruleBackCard : Claim7 := { stood := { row := ruleBackRow, standIns := [], harness := (true, "0e561d084001cd13431b698fc29d6af0d792d1a592a366644759c5e6d44678d7"), looks := true }, kinds := [], alts := [], laidByText := true, laidKinds := [.data, .data, .data, .sentinel, .sentinel], laidTests := true, laidLooks := .later }
def RuleBackCardSaid : Prop := Claim7.holds Tryz.pinned (.plain (OpenSpec.ofChange ruleBackSpec)) ruleBackCard

/-- THE TIED CARD OF 'agoralaw31.RuleReads'. -/
def ruleReadsCard : Claim7 := { stood := { row := ruleReadsRow, standIns := [], harness := (true, "0e561d084001cd13431b698fc29d6af0d792d1a592a366644759c5e6d44678d7"), looks := true }, kinds := [], alts := [], laidByText := true, laidKinds := [.data, .data, .data, .sentinel, .sentinel], laidTests := true, laidLooks := .later }
def RuleReadsCardSaid : Prop := Claim7.holds Tryz.pinned (.plain (OpenSpec.ofChange ruleReadsSpec)) ruleReadsCard

/-- THE TIED CARD OF 'agoralaw31.RuleRenames'. -/
def ruleRenamesCard : Claim7 := { stood := { row := ruleRenamesRow, standIns := [], harness := (true, "0e561d084001cd13431b698fc29d6af0d792d1a592a366644759c5e6d44678d7"), looks := true }, kinds := [], alts := [], laidByText := true, laidKinds := [.data, .data, .data, .sentinel, .sentinel], laidTests := true, laidLooks := .later }
def RuleRenamesCardSaid : Prop := Claim7.holds Tryz.pinned (.plain (OpenSpec.ofChange ruleRenamesSpec)) ruleRenamesCard

/-- THE SECOND FORM's CARD OF 'agoralaw31.RuleGroups'. -/
def ruleGroupsUptoCard : Claim7 := { stood := { row := ruleGroupsUptoRow, standIns := [], harness := (true, "0e561d084001cd13431b698fc29d6af0d792d1a592a366644759c5e6d44678d7"), looks := true }, kinds := [], alts := [], laidByText := true, laidKinds := [.data, .data, .data, .sentinel, .sentinel], laidTests := true, laidLooks := .later }
def RuleGroupsUptoCardSaid : Prop := Claim7.holds Tryz.pinned (.plain (OpenSpec.upto ruleGroupsSpec)) ruleGroupsUptoCard

/-- THE SECOND FORM's CARD OF 'agoralaw31.RuleErrors'. -/
def ruleErrorsUptoCard : Claim7 := { stood := { row := ruleErrorsUptoRow, standIns := [], harness := (true, "0e561d084001cd13431b698fc29d6af0d792d1a592a366644759c5e6d44678d7"), looks := true }, kinds := [], alts := [], laidByText := true, laidKinds := [.data, .data, .data, .sentinel, .sentinel], laidTests := true, laidLooks := .later }
def RuleErrorsUptoCardSaid : Prop := Claim7.holds Tryz.pinned (.plain (OpenSpec.upto ruleErrorsSpec)) ruleErrorsUptoCard

/-- THE SECOND FORM's CARD OF 'agoralaw31.RuleBack'. -/
def ruleBackUptoCard : Claim7 := { stood := { row := ruleBackUptoRow, standIns := [], harness := (true, "0e561d084001cd13431b698fc29d6af0d792d1a592a366644759c5e6d44678d7"), looks := true }, kinds := [], alts := [], laidByText := true, laidKinds := [.data, .data, .data, .sentinel, .sentinel], laidTests := true, laidLooks := .later }
def RuleBackUptoCardSaid : Prop := Claim7.holds Tryz.pinned (.plain (OpenSpec.upto ruleBackSpec)) ruleBackUptoCard

/-- THE SECOND FORM's CARD OF 'agoralaw31.RuleReads'. -/
def ruleReadsUptoCard : Claim7 := { stood := { row := ruleReadsUptoRow, standIns := [], harness := (true, "0e561d084001cd13431b698fc29d6af0d792d1a592a366644759c5e6d44678d7"), looks := true }, kinds := [], alts := [], laidByText := true, laidKinds := [.data, .data, .data, .sentinel, .sentinel], laidTests := true, laidLooks := .later }
def RuleReadsUptoCardSaid : Prop := Claim7.holds Tryz.pinned (.plain (OpenSpec.upto ruleReadsSpec)) ruleReadsUptoCard

/-- THE SECOND FORM's CARD OF 'agoralaw31.RuleRenames'. -/
def ruleRenamesUptoCard : Claim7 := { stood := { row := ruleRenamesUptoRow, standIns := [], harness := (true, "0e561d084001cd13431b698fc29d6af0d792d1a592a366644759c5e6d44678d7"), looks := true }, kinds := [], alts := [], laidByText := true, laidKinds := [.data, .data, .data, .sentinel, .sentinel], laidTests := true, laidLooks := .later }
def RuleRenamesUptoCardSaid : Prop := Claim7.holds Tryz.pinned (.plain (OpenSpec.upto ruleRenamesSpec)) ruleRenamesUptoCard
end Rows
end Go.Proofs.YtdlkcjkjnehnkaaGreatDoor
